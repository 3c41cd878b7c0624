/- A machine over pure data: part 44: slices.overlaps; the shift of a lengthened row; append of a make onto a row that has no room. -/
import Derived.Test.YtagdffkagpeomaaAM43
set_option linter.unusedVariables false
set_option linter.unusedSimpArgs false
namespace Go.AM
open Go Go.RowKit

section
variable {P : Program} {l rest : List Oper} {Q : Exit → St → Prop} {n d clk : Nat} {T : List (Nat × AV)} {H : List (Nat × Option Blk)} {Hp : List Blk} {x y lo hi : Operand} {t t2 ty : TypeId} {tys : Array TypeId} {pos : String} {aft : Array Edge} {g : Option (Nat × Bool)} {ts : List (Nat × TI)}

/-- slices.overlaps(x, y), x a row of the call's own, y a part of another one. -/
theorem VOp.overlaps (hT : TOK P ts) {o : Option Tmp} {σ : St} {cc : Operand} {f : FuncId} {fn : Func} {tS tR : TypeId} {i j : Nat} {e1 e2 sz1 sz2 lo2 m2 L2 C2 : Nat} {xs ys : List (List D)} {full : Bool} (hc : ev σ cc = some (.fn f [])) (hf : P.funcs[f]? = some fn) (h1 : (fn.name == "runtime.NumGoroutine") = false) (h2 : fn.body.isNone = true)
    (h3 : Extern.findNext fn = none) (h4 : Extern.find fn = some (Extern.SlicesOverlaps.overlaps #[tS, tS] #[tR])) (hx : ev σ x = some (.own (.loc i))) (hxi : hk σ (.loc i) = some (.row e1 sz1 xs)) (hy : ev σ y = some (.sub (.loc j) sz2 lo2 m2 full)) (hyj : hk σ (.loc j) = some (.rowc e2 sz2 ys L2 C2)) (hij : Nat.beq i j = false)
    {e' s b' : Nat} {z : List AV} (ht : lk ts tS = some ⟨.slice e', s, b', z⟩) {ie : TI} (he : lk ts e' = some ie) (hL : 0 < L2) (hs2 : 0 < sz2) (hne : xs ≠ []) :
    VOp P σ ⟨o, .call ⟨.value cc, #[x, y], tys⟩, ty, pos, aft, g⟩ (bo false) := by
  refine VOp.mk fun ctx ac w ρ O hs => ⟨.bool false, fun w' hb => ?_, .d _ _ (.one _ rfl)⟩
  have hij : i ≠ j := fun h => by subst h; simp at hij
  have ev1 := ev_sound hs hx
  have ev2 := ev_sound hs hy
  have ev3 := ev_sound hs hc
  have hsize := (hT.facts he).sizeOf (P := P)
  have hu := und_slice hT ht
  obtain ⟨gb, cur, k1, k2, k3, k4, k5, k6, k7, k8⟩ := hs.H.ok (.loc j) _ hyj
  obtain ⟨v, vs, hv, hown, hxl, hxc⟩ := hs.H.ok (.loc i) _ hxi
  have hyv : ∃ off c2, ac.eval y = .slice (some ⟨gb, off, none⟩) m2 c2 := by
    generalize ac.eval y = q at ev2
    cases ev2 with
    | sub _ _ _ _ _ g' L' C' c' off h5 h6 => rw [k1] at h5; cases h5; exact ⟨off, c', rfl⟩
    | subN _ _ _ h5 => rw [k1] at h5; cases h5
  obtain ⟨off, c2, hyv⟩ := hyv
  have hax : ac.eval x = v := by
    generalize ac.eval x = q at ev1
    cases ev1 with
    | own _ _ h1 _ => rw [hv] at h1; injection h1 with h1; exact h1.symm
  have hblk : ∀ k, k < w.heap.size → w'.heap[k]? = w.heap[k]? := fun k hk => hb.block k hk
  have hgb : gb < w.heap.size := (Array.getElem?_eq_some_iff.1 k2).1
  have k2' : w'.heap[gb]? = some (.cells cur e2 (0, 0)) := (hblk gb hgb).trans k2
  have hrun : (Extern.SlicesOverlaps.overlaps #[tS, tS] #[tR] #[v, .slice (some ⟨gb, off, none⟩) m2 c2]).run P w' = .ok (.bool false) w' := by
    rcases hown.2 with ⟨rfl, h0⟩ | ⟨ga, cap, cura, rfl, _, hh, hnc, hcm, hcs, htk⟩
    · exact absurd (List.eq_nil_of_length_eq_zero (by omega)) hne
    · have hne : ga ≠ gb := fun e => by
        subst e
        have := hs.H.inj (.loc i) (.loc j) _ _ ga hxi hyj (by rw [hv]; rfl) (by rw [k1]; rfl)
        injection this with this
        exact hij this
      have hga : ga < w.heap.size := (Array.getElem?_eq_some_iff.1 hh).1
      have hh' : w'.heap[ga]? = some (.cells cura e1 (0, 0)) := (hblk ga hga).trans hh
      refine Lib.run_overlaps_apart (P := P) w' tS tR e' hu ie.size (fun w => hsize w) ⟨ga, 0, none⟩ ⟨gb, off, none⟩ xs.length cap m2 c2 hne e1 e2 cura.size cur.size ?_ ?_ ?_ ?_ ?_
      · simp [World.shape?, hh']
      · simp [World.shape?, k2']
      · have : 1 * 1 ≤ C2 * sz2 := Nat.mul_le_mul (by omega) (by omega)
        omega
      · simp [World.frozen?, hh']
      · simp [World.frozen?, hh']
  generalize hq : ac.eval cc = q at ev3
  cases ev3 with
  | fn _ _ cvs hl hcv =>
    have : cvs = #[] := Array.eq_empty_of_size_eq_zero (by simpa using hl.symm)
    subst this
    have hr2 := run_callFunc_extern hf h1 h2 h3 h4 #[v, .slice (some ⟨gb, off, none⟩) m2 c2] w'
    rw [hrun] at hr2
    simp only [Result.andThen] at hr2
    simp [execOp, resolve, hq, hax, hyv, Deferred.ofValue, invoke, hr2]

/-- copy(x[i+q:], x[i:]), x a row that was lengthened by q: what stands from i on is moved. -/
theorem AL.copyX (hT : TOK P ts) (hw : wantedA l ⟨some d, .call ⟨.builtin .copy, #[x, y], #[t, t2]⟩, ty, pos, aft, g⟩ ⟨n, T, H, Hp, clk⟩ = some true) (hd : Nat.blt d n = true) {id e sz L C i q : Nat} {xs : List (List D)} {f1 f2 : Bool} {lo1 m1 m2 : Nat}
    (hx : ev ⟨n, T, H, Hp, clk⟩ x = some (.sub (.loc id) sz lo1 m1 f1)) (hy : ev ⟨n, T, H, Hp, clk⟩ y = some (.sub (.loc id) sz i m2 f2)) (hid : hk ⟨n, T, H, Hp, clk⟩ (.loc id) = some (.rowc e sz xs L C)) (hlo : lo1 = i + q) (hm1 : m1 = L - lo1) (hm2 : m2 = L - i) (hL : L = xs.length + q) (hq : 0 < q) (hfit : i + q ≤ xs.length)
    {e' s b : Nat} {z : List AV} (ht : lk ts t = some ⟨.slice e', s, b, z⟩) {ie : TI} (he : lk ts e' = some ie) (hsz : Nat.beq ie.size sz = true)
    (h : AL P l Q rest ⟨n, (d, i64 (m1 : Nat)) :: T, (id, some (.row e sz (xs.take (i + q) ++ xs.drop i))) :: H, Hp, clk⟩) :
    AL P l Q (⟨some d, .call ⟨.builtin .copy, #[x, y], #[t, t2]⟩, ty, pos, aft, g⟩ :: rest) ⟨n, T, H, Hp, clk⟩ := by
  refine AL.step (σ' := ⟨n, (d, i64 (m1 : Nat)) :: T, (id, some (.row e sz (xs.take (i + q) ++ xs.drop i))) :: H, Hp, clk⟩) hw ?_ h
  rintro c a w ⟨ρ, O, hs⟩ K Q' hK
  have hsz := Nat.eq_of_beq_eq_true hsz
  have ev1 := ev_sound hs hx
  have ev2 := ev_sound hs hy
  have hsize := (hT.facts he).sizeOf (P := P)
  have hu := und_slice hT ht
  obtain ⟨gb, cur, k1, k2, k3, k4, k5, k6, k7, k8⟩ := hs.H.ok (.loc id) _ hid
  have hxv : ∃ c1, a.eval x = .slice (some ⟨gb, (i + q) * sz, none⟩) m1 c1 := by
    rw [← hlo]
    generalize a.eval x = v at ev1
    cases ev1 with
    | sub _ _ _ _ _ g' L' C' c' off h5 h6 h7 h8 h9 h10 => rw [k1] at h5; cases h5; exact ⟨c', by rw [h10 (by omega)]⟩
    | subN _ _ _ h5 => rw [k1] at h5; cases h5
  have hyv : ∃ c2, a.eval y = .slice (some ⟨gb, i * sz, none⟩) m2 c2 := by
    generalize a.eval y = v at ev2
    cases ev2 with
    | sub _ _ _ _ _ g' L' C' c' off h5 h6 h7 h8 h9 h10 => rw [k1] at h5; cases h5; exact ⟨c', by rw [h10 (by omega)]⟩
    | subN _ _ _ h5 => rw [k1] at h5; cases h5
  obtain ⟨c1, hxv⟩ := hxv
  obtain ⟨c2, hyv⟩ := hyv
  have hmin : Nat.min m2 m1 = m1 := Nat.min_eq_right (by omega)
  have hm1x : m1 = xs.length - i := by omega
  -- the cells that are moved
  have hcsz : (i + m1) * sz ≤ cur.size := by rw [k3]; exact Nat.mul_le_mul_right _ (by omega)
  have hcsz2 : (i + q + m1) * sz ≤ cur.size := by rw [k3]; exact Nat.mul_le_mul_right _ (by omega)
  rw [Nat.add_mul] at hcsz hcsz2
  generalize hnw : (cur.toList.drop (i * sz)).take (m1 * sz) = news
  have hcl : cur.toList.length = cur.size := by simp
  have hnl : news.length = m1 * sz := by rw [← hnw, List.length_take, List.length_drop, hcl]; omega
  have hget : ∀ p, p < m1 * sz → news[p]? = cur[i * sz + p]? := fun p hp => by
    rw [← hnw, List.getElem?_take, if_pos hp, List.getElem?_drop, Array.getElem?_toList]
  have hcell : ∀ (p : Nat) u, news[p]? = some u → w.cell? (Addr.add ⟨gb, i * sz, none⟩ p) = some u := fun p u hu' => by
    have hp : p < m1 * sz := by rw [← hnl]; exact (List.getElem?_eq_some_iff.1 hu').1
    rw [hget p hp] at hu'
    rw [add_ptr]
    simp [World.cell?, k2, hu']
  have hread : ∀ (j k : Nat) x d, xs[j]? = some x → x[k]? = some d → k < sz := fun j k x d hx hd => by
    have := (List.getElem?_eq_some_iff.1 hd).1
    rw [k7 x (List.mem_of_getElem? hx)] at this
    exact this
  have hone : ∀ u ∈ news, u.oneCell' = true := fun u hu' => by
    obtain ⟨p, hp⟩ := List.getElem?_of_mem hu'
    have hpl : p < m1 * sz := by rw [← hnl]; exact (List.getElem?_eq_some_iff.1 hp).1
    rw [hget p hpl] at hp
    have hs0 : 0 < sz := by
      rcases Nat.eq_zero_or_pos sz with h0 | h0
      · rw [h0] at hpl; omega
      · exact h0
    have h1 : p / sz < m1 := (Nat.div_lt_iff_lt_mul hs0).2 hpl
    have hj : i + p / sz < xs.length := by omega
    have hxl : (xs[i + p / sz]'hj).length = sz := k7 _ (List.getElem_mem _)
    have hk : p % sz < (xs[i + p / sz]'hj).length := by rw [hxl]; exact Nat.mod_lt _ hs0
    obtain ⟨u', u1, u2⟩ := k8 (i + p / sz) (p % sz) _ _ (List.getElem?_eq_getElem hj) (List.getElem?_eq_getElem hk)
    have e : (i + p / sz) * sz + p % sz = i * sz + p := by
      have h5 := Nat.div_add_mod p sz
      rw [Nat.mul_comm] at h5
      rw [Nat.add_mul]
      omega
    rw [e, hp] at u1
    injection u1 with u1
    subst u1
    exact u2.oneCell
  have hload : (loadCells ⟨gb, i * sz, none⟩ (m1 * sz)).run P w = .ok news.toArray w := by
    have := run_loadCells_list (P := P) w ⟨gb, i * sz, none⟩ news hcell
    rw [hnl] at this
    exact this
  obtain ⟨cur', e1, e2, e3⟩ := run_storeSeg (P := P) gb ((i + q) * sz) e news 0 cur w k2 (by rw [hnl]; omega) hone
  have hrun : (Builtin.copy_ #[t, t2] ty #[.slice (some ⟨gb, (i + q) * sz, none⟩) m1 c1, .slice (some ⟨gb, i * sz, none⟩) m2 c2]).run P w = .ok (goInt m1) (w.setRow gb cur') := by
    simp [Builtin.copy_, run_underlying hu, Builtin.lenOf, Builtin.firstCells, hsize, hsz, hmin, hload, e1]
  unfold Oper.wp
  have hex : (execOp a.eval ⟨some d, .call ⟨.builtin .copy, #[x, y], #[t, t2]⟩, ty, pos, aft, g⟩).run P w = .ok (.value (.int .i64 (m1 : Int))) (w.setRow gb cur') := by
    simp [execOp, resolve, invoke, builtin, hxv, hyv, hrun, goInt]
  rw [hex]
  have hOgb := hs.H.own (.loc id) _ gb hid (by rw [k1]; rfl)
  have hk0 : Keeps O w O (w.setRow gb cur') := ⟨by simp, fun k _ hO' => setRow_other w gb k cur' (fun e => hO' (e ▸ hOgb.1)), fun k hk => .inl hk⟩
  have hset : aset ⟨n, T, H, Hp, clk⟩ (.loc id) (.row e sz (xs.take (i + q) ++ xs.drop i)) = some ⟨n, T, (id, some (.row e sz (xs.take (i + q) ++ xs.drop i))) :: H, Hp, clk⟩ := rfl
  have hlenx : (xs.take (i + q) ++ xs.drop i).length = L := by simp; omega
  have hLC : L * sz ≤ C * sz := Nat.mul_le_mul_right _ k5
  have hcl' : cur'.toList.length = cur'.size := by simp
  have hsat : SatAt c ⟨n, T, (id, some (.row e sz (xs.take (i + q) ++ xs.drop i))) :: H, Hp, clk⟩ a (w.setRow gb cur') ρ O := by
    refine chg_sat hs hid hset (g := gb) (by rw [k1]; rfl) (fun k hk => setRow_other w gb k cur' hk) (by simp) rfl rfl rfl ?_
    refine ⟨_, cur'.toList.take (L * sz), k1, ⟨?_, .inr ⟨gb, C, cur', by rw [hlenx], Nat.zero_le _, ?_, by rw [hlenx]; exact k5, k6, by rw [e2]; exact k3, by rw [hlenx]⟩⟩, fun y hy => ?_, fun j k y d' hy hd' => ?_⟩
    · rw [hlenx, List.length_take, hcl', e2, k3]; omega
    · have hlt : gb < w.heap.size := (Array.getElem?_eq_some_iff.1 k2).1
      exact setRow_heap w gb cur cur' e (0, 0) k2
    · rcases List.mem_append.1 hy with hy | hy
      · exact k7 y (List.mem_of_mem_take hy)
      · exact k7 y (List.mem_of_mem_drop hy)
    · have hjL : j < L := by rw [← hlenx]; exact (List.getElem?_eq_some_iff.1 hy).1
      have hk : k < sz := by
        have h5 := (List.getElem?_eq_some_iff.1 hd').1
        have h6 : y.length = sz := by
          rcases List.mem_append.1 (List.mem_of_getElem? hy) with hy | hy
          · exact k7 y (List.mem_of_mem_take hy)
          · exact k7 y (List.mem_of_mem_drop hy)
        omega
      have hjk : j * sz + k < L * sz := by
        have : (j + 1) * sz ≤ L * sz := Nat.mul_le_mul_right _ (by omega)
        rw [Nat.succ_mul] at this
        omega
      have htake : (cur'.toList.take (L * sz))[j * sz + k]? = cur'[j * sz + k]? := by rw [List.getElem?_take, if_pos hjk, Array.getElem?_toList]
      rw [htake, e3]
      by_cases hjq : j < i + q
      · have h5 : xs[j]? = some y := by
          rw [List.getElem?_append_left (by simp; omega), List.getElem?_take, if_pos hjq] at hy
          exact hy
        have h6 : (j + 1) * sz ≤ (i + q) * sz := Nat.mul_le_mul_right _ (by omega)
        rw [Nat.succ_mul] at h6
        rw [if_neg (by omega)]
        obtain ⟨u, u1, u2⟩ := k8 j k y d' h5 hd'
        exact ⟨u, u1, u2.keep hk0⟩
      · have h5 : xs[j - q]? = some y := by
          rw [List.getElem?_append_right (by simp; omega), List.getElem?_drop] at hy
          rw [← hy]; congr 1; simp; omega
        obtain ⟨u, u1, u2⟩ := k8 (j - q) k y d' h5 hd'
        have g1 : (i + q) * sz ≤ j * sz := Nat.mul_le_mul_right _ (by omega)
        have g2 : (j - (i + q)) * sz = j * sz - (i + q) * sz := Nat.sub_mul ..
        have g3 : (j - (i + q) + 1) * sz ≤ m1 * sz := Nat.mul_le_mul_right _ (by omega)
        rw [Nat.succ_mul] at g3
        have g4 : (j - q) * sz = j * sz - q * sz := Nat.sub_mul ..
        have g5 : (i + q) * sz = i * sz + q * sz := Nat.add_mul ..
        rw [if_pos ⟨by omega, by rw [hnl]; omega⟩]
        refine ⟨u, ?_, u2.keep hk0⟩
        rw [hget _ (by omega)]
        rw [show i * sz + (j * sz + k - ((i + q) * sz + 0)) = (j - q) * sz + k by omega]
        exact u1
  exact hK _ _ ⟨ρ, O, put_sat hsat (v := .int .i64 (m1 : Int)) (x := i64 (m1 : Nat)) (.d _ _ (.one _ rfl)) (by simp [put, hd])⟩
end
end Go.AM
