/- A machine over pure data: part 14: append; a row handed on; a row looked into. -/
import Derived.Test.YtpohebmofcdeiaaAM13
namespace Go.AM
open Go Go.RowKit

/-- The slice in slot t and its elements. -/
def rowOf (σ : St) : AV → Option (List (List D))
  | .d (.row xs) => some xs
  | .nilrow => some []
  | .own i => match hk σ i with
    | some (.row _ _ xs) => some xs
    | _ => none
  | _ => none

/-- What reads as a row, for whoever looks into no block at all. -/
theorem row_reads {c : Ctx} {σ : St} {a : Act} {w : World} {ρ : Env} {O : Nat → Prop} (hs : SatAt c σ a w ρ O) {x : AV} {xs : List (List D)} (hx : rowOf σ x = some xs) {v : Value} (hv : VR ρ O w x v) : Reads (fun _ => False) w (.row xs) v := by
  have hk : Keeps O w (fun _ => False) w := ⟨Nat.le_refl _, fun _ _ _ => rfl, fun k hk => hk.elim⟩
  cases x with
  | d y =>
    cases y with
    | one => simp [rowOf] at hx
    | row ys =>
      simp only [rowOf] at hx
      cases hx
      cases hv with
      | d _ _ h => exact h.keep hk
  | nilrow =>
    simp only [rowOf] at hx
    cases hx
    cases hv
    exact .none none 0
  | own i =>
    simp only [rowOf] at hx
    split at hx
    · rename_i e sz ys hb
      cases hx
      cases hv with
      | own _ _ h h1 => exact own_reads (hs.H.ok i _ hb) h (fun k hk => hk.elim) (fun _ _ h => h)
    · cases hx
  | _ => simp [rowOf] at hx

/-- A row's cells, as append takes them. -/
theorem reads_cells {w : World} {xs : List (List D)} {v : Value} (h : Reads (fun _ => False) w (.row xs) v) {sz : Nat} (hsz : ∀ x ∈ xs, x.length = sz) (hs0 : 0 < sz) :
    ∃ (A : Option Addr) (c : Nat) (news : List Value), v = .slice A xs.length c ∧ news.length = xs.length * sz ∧ (∀ ad, A = some ad → ∀ (k : Nat) u, news[k]? = some u → w.cell? (ad.add k) = some u) ∧ (A = none → xs = []) ∧ (∀ u ∈ news, u.oneCell' = true) ∧
      (∀ (j k : Nat) x d, xs[j]? = some x → x[k]? = some d → ∃ u : Value, news[j * sz + k]? = some u ∧ u.oneCell' = true) ∧ ∀ (O : Nat → Prop), Reads O w (.row xs) v → ∀ (j k : Nat) x d u, xs[j]? = some x → x[k]? = some d → news[j * sz + k]? = some u → Reads O w d u := by
  cases h with
  | none a c => exact ⟨a, c, [], rfl, by simp, fun ad _ k u h => by simp at h, fun _ => rfl, fun u h => by simp at h, fun j k x d h => by simp at h, fun O _ j k x d u h => by simp at h⟩
  | row _ sz' c ad u hl hc hm hO hb hcell hsub =>
    have hdiv : ∀ j k : Nat, k < sz → (j * sz + k) / sz = j ∧ (j * sz + k) % sz = k := by
      intro j k hk
      constructor
      · rw [Nat.mul_comm, Nat.mul_add_div hs0, Nat.div_eq_of_lt hk, Nat.add_zero]
      · rw [Nat.mul_comm, Nat.mul_add_mod, Nat.mod_eq_of_lt hk]
    have hel : ∀ q, q < xs.length * sz → ∃ x d, xs[q / sz]? = some x ∧ x[q % sz]? = some d ∧ sz' = sz := by
      intro q hq
      have h1 : q / sz < xs.length := (Nat.div_lt_iff_lt_mul hs0).2 hq
      have hmem : xs[q / sz] ∈ xs := List.getElem_mem h1
      have h2 := hsz _ hmem
      have h3 := hl _ hmem
      have h4 : q % sz < (xs[q / sz]).length := by rw [h2]; exact Nat.mod_lt _ hs0
      exact ⟨xs[q / sz], (xs[q / sz])[q % sz], List.getElem?_eq_getElem h1, List.getElem?_eq_getElem h4, by omega⟩
    have hnews : ∀ q, ((List.range (xs.length * sz)).map fun q => u (q / sz) (q % sz))[q]? = if q < xs.length * sz then some (u (q / sz) (q % sz)) else none := by
      intro q
      rw [List.getElem?_map]
      by_cases hq : q < xs.length * sz
      · rw [List.getElem?_range hq, if_pos hq]; rfl
      · rw [if_neg hq, List.getElem?_eq_none (by simp; omega)]; rfl
    have hpos : ∀ (j k : Nat) x d, xs[j]? = some x → x[k]? = some d → j * sz + k < xs.length * sz ∧ (j * sz + k) / sz = j ∧ (j * sz + k) % sz = k := by
      intro j k x d hx hd
      have hj := (List.getElem?_eq_some_iff.1 hx).1
      have hk : k < sz := by rw [← hsz x (List.mem_of_getElem? hx)]; exact (List.getElem?_eq_some_iff.1 hd).1
      obtain ⟨a, b⟩ := hdiv j k hk
      refine ⟨?_, a, b⟩
      have : (j + 1) * sz ≤ xs.length * sz := Nat.mul_le_mul_right _ hj
      rw [Nat.add_mul, Nat.one_mul] at this
      omega
    refine ⟨some ad, c, (List.range (xs.length * sz)).map fun q => u (q / sz) (q % sz), rfl, by simp, fun ad' he k v hv => ?_, fun h => (by cases h), fun v hv => ?_, fun j k x d hx hd => ?_, fun O hR j k x d v hx hd hv => ?_⟩
    · cases he
      rw [hnews] at hv
      split at hv
      · rename_i hq
        cases hv
        obtain ⟨x, d, h1, h2, h3⟩ := hel k hq
        have := hcell _ _ x d h1 h2
        rw [h3, Nat.div_add_mod' k sz] at this
        exact this
      · cases hv
    · obtain ⟨q, hq⟩ := List.getElem?_of_mem hv
      rw [hnews] at hq
      split at hq
      · rename_i hlt
        cases hq
        obtain ⟨x, d, h1, h2, h3⟩ := hel q hlt
        exact (hsub _ _ x d h1 h2).oneCell
      · cases hq
    · obtain ⟨a, b, e⟩ := hpos j k x d hx hd
      refine ⟨u j k, by rw [hnews, if_pos a, b, e], (hsub j k x d hx hd).oneCell⟩
    · obtain ⟨a, b, e⟩ := hpos j k x d hx hd
      rw [hnews, if_pos a, b, e] at hv
      cases hv
      cases hR with
      | none => simp at hx
      | row _ sz2 _ _ u2 hl2 _ _ hO2 _ hcell2 hsub2 =>
        have h2 := hcell2 j k x d hx hd
        have h1 := hcell j k x d hx hd
        have he1 := hl x (List.mem_of_getElem? hx)
        have he2 := hl2 x (List.mem_of_getElem? hx)
        rw [← he1, he2] at h1
        rw [h1] at h2
        injection h2 with h2
        rw [h2]
        exact hsub2 j k x d hx hd

/-- A row in a slot is told anew: it may have been written, moved. -/
theorem rerow_sat {c : Ctx} {n clk i : Nat} {T : List (Nat × AV)} {H : List (Nat × Option Blk)} {Hp : List Blk} {a : Act} {w w1 : World} {ρ : Env} {O : Nat → Prop} (hs : SatAt c ⟨n, T, H, Hp, clk⟩ a w ρ O) {b0 b : Blk} (h0 : hk ⟨n, T, H, Hp, clk⟩ (.loc i) = some b0)
    {v v1 : Value} (hv : ρ (.loc i) = some v) (hat : ∀ g, vblk v1 = some g → vblk v = some g ∨ (g = w.heap.size ∧ g < w1.heap.size)) (hsize : w.heap.size ≤ w1.heap.size) (hold : ∀ k, k < w.heap.size → vblk v ≠ some k → w1.heap[k]? = w.heap[k]?)
    (hos : w1.os = w.os) (htape : w1.tape = w.tape) (hout : w1.output = w.output)
    (hb : BOK (upd ρ clk v1) (fun k => O k ∨ (k = w.heap.size ∧ k < w1.heap.size)) w1 (.loc clk) b) : SatAt c ⟨n, T, (clk, some b) :: (i, none) :: H, Hp, clk + 1⟩ a w1 (upd ρ clk v1) (fun k => O k ∨ (k = w.heap.size ∧ k < w1.heap.size)) := by
  have hf := hs.fresh clk (Nat.le_refl _)
  have he := upd_ext (v := v1) hf
  have hvO : ∀ g, vblk v = some g → O g ∧ g < w.heap.size ∧ c.w0.heap.size ≤ g := fun g hg => hs.H.own (.loc i) b0 g h0 (by rw [hv]; exact hg)
  have hk0 : Keeps O w (fun k => O k ∨ (k = w.heap.size ∧ k < w1.heap.size)) w1 := ⟨hsize, fun k hk hO => hold k hk (fun e => hO (hvO k e).1), fun k hk => by
    rcases hk with hk | hk
    · exact .inl hk
    · exact .inr (by omega)⟩
  have hlk : ∀ j b', hk ⟨n, T, (clk, some b) :: (i, none) :: H, Hp, clk + 1⟩ j = some b' → (j = .loc clk ∧ b' = b) ∨ (j ≠ .loc clk ∧ j ≠ .loc i ∧ hk ⟨n, T, H, Hp, clk⟩ j = some b') := by
    intro j b' h
    cases j with
    | par k => exact .inr ⟨by simp, by simp, h⟩
    | loc k =>
      by_cases e1 : clk = k
      · subst e1
        simp only [hk, lk_cons_self] at h
        exact .inl ⟨rfl, by cases h; rfl⟩
      · by_cases e2 : i = k
        · subst e2
          simp only [hk, lk_cons_ne e1, lk_cons_self] at h
          cases h
        · simp only [hk, lk_cons_ne e1, lk_cons_ne e2] at h
          exact .inr ⟨fun e => by injection e with e; exact e1 e.symm, fun e => by injection e with e; exact e2 e.symm, h⟩
  have hρ : ∀ j g, j ≠ .loc clk → (upd ρ clk v1 j).bind vblk = some g → (ρ j).bind vblk = some g := by
    intro j g h1 h2
    simpa [upd, h1] using h2
  have hne : ∀ j b' g, j ≠ .loc i → hk ⟨n, T, H, Hp, clk⟩ j = some b' → (ρ j).bind vblk = some g → vblk v ≠ some g := by
    intro j b' g hj hb' hg hvg
    exact hj (hs.H.inj j (.loc i) b' b0 g hb' h0 hg (by rw [hv]; exact hvg))
  refine ⟨hs.defers, hs.n, fun k => ?_, fun k hk' => ?_, fun t x ht => ?_, ⟨fun j b' h => ?_, fun j b' g h hg => ?_, fun j k bj bk g hj hk' hgj hgk => ?_⟩, ?_⟩
  · simpa [upd] using hs.par k
  · simp only at hk'
    have : ρ (.loc k) = none := hs.fresh k (by simp only; omega)
    simp only [upd]
    rw [if_neg (by intro e; injection e with e; omega)]
    exact this
  · obtain ⟨u, h1, h2⟩ := hs.T t x ht
    exact ⟨u, h1, h2.keep he hk0⟩
  · rcases hlk j b' h with ⟨rfl, rfl⟩ | ⟨h1, h2, h3⟩
    · exact hb
    · refine (hs.H.ok j b' h3).keep he hk0 (fun g hg => hold g (hs.H.own j b' g h3 hg).2.1 (hne j b' g h2 h3 hg))
  · rcases hlk j b' h with ⟨rfl, rfl⟩ | ⟨h1, h2, h3⟩
    · rw [upd_self] at hg
      simp only [Option.bind_some] at hg
      rcases hat g hg with hg' | ⟨hg', hlt⟩
      · obtain ⟨e1, e2, e3⟩ := hvO g hg'
        exact ⟨.inl e1, by omega, e3⟩
      · subst hg'
        exact ⟨.inr ⟨rfl, hlt⟩, hlt, hs.F.size⟩
    · obtain ⟨e1, e2, e3⟩ := hs.H.own j b' g h3 (hρ j g h1 hg)
      exact ⟨.inl e1, by omega, e3⟩
  · have newg : ∀ j b' g, j ≠ .loc clk → j ≠ .loc i → hk ⟨n, T, H, Hp, clk⟩ j = some b' → (upd ρ clk v1 j).bind vblk = some g → (upd ρ clk v1 (.loc clk)).bind vblk = some g → False := by
      intro j b' g h1 h2 h3 hg hg'
      rw [upd_self] at hg'
      simp only [Option.bind_some] at hg'
      have hgj := hρ j g h1 hg
      rcases hat g hg' with hv' | ⟨hv', _⟩
      · exact hne j b' g h2 h3 hgj hv'
      · have := (hs.H.own j b' g h3 hgj).2.1
        omega
    rcases hlk j bj hj with ⟨rfl, e1⟩ | ⟨h1, h2, h3⟩ <;> rcases hlk k bk hk' with ⟨rfl, e2⟩ | ⟨h1', h2', h3'⟩
    · rfl
    · exact (newg k bk g h1' h2' h3' hgk hgj).elim
    · exact (newg j bj g h1 h2 h3 hgj hgk).elim
    · exact hs.H.inj j k bj bk g h3 h3' (hρ j g h1 hgj) (hρ k g h1' hgk)
  · have hF := hs.F
    refine ⟨hos.trans hF.os, htape.trans hF.tape, hout.trans hF.output, Nat.le_trans hF.size hsize, fun k hk' hW => ?_, fun k hk' => .inl (hF.mono k hk'), fun k hk' => ?_, hF.wlt, fun k hk' => ?_, hF.olt0⟩
    · refine (hold k (Nat.lt_of_lt_of_le hk' hF.size) (fun e => ?_)).trans (hF.same k hk' hW)
      have := (hvO k e).2.2
      omega
    · rcases hk' with hk' | ⟨hk', _⟩
      · exact hF.news k hk'
      · exact .inr (by rw [hk']; exact hF.size)
    · rcases hk' with hk' | ⟨_, hk'⟩
      · have := hF.olt k hk'; omega
      · exact hk'

section
variable {P : Program} {l rest : List Oper} {Q : Exit → St → Prop} {n d clk : Nat} {T : List (Nat × AV)} {H : List (Nat × Option Blk)} {Hp : List Blk} {x y : Operand} {t t2 ty : TypeId} {pos : String} {aft : Array Edge} {g : Option (Nat × Bool)}

/-- A nil slice is a row of the call's own, without elements. -/
theorem nilOwn_imp (s e sz : Nat) (hs : lk T s = some .nilrow) : Imp ⟨n, T, H, Hp, clk⟩ ⟨n, (s, .own (.loc clk)) :: T, (clk, some (.row e sz [])) :: H, Hp, clk + 1⟩ := by
  rintro c a w ⟨ρ, O, h⟩
  have hf := h.fresh clk (Nat.le_refl _)
  have he := upd_ext (v := .slice none 0 0) hf
  refine ⟨upd ρ clk (.slice none 0 0), O, h.defers, h.n, fun k => ?_, fun k hk' => ?_, fun t x ht => ?_, ⟨fun i b hb => ?_, fun i b g hb hg => ?_, fun i j bi bj g hi hj hgi hgj => ?_⟩, h.F⟩
  · simpa [upd] using h.par k
  · simp only at hk'
    have : ρ (.loc k) = none := h.fresh k (by simp only; omega)
    simp only [upd]
    rw [if_neg (by intro e; injection e with e; omega)]
    exact this
  · simp only [lk] at ht
    cases hb : Nat.beq s t with
    | true =>
      rw [hb] at ht
      have := Nat.eq_of_beq_eq_true hb
      subst this
      simp at ht
      subst ht
      obtain ⟨v, e1, e2⟩ := h.T s _ hs
      cases e2
      exact ⟨_, e1, .own _ _ (upd_self _ _ _) rfl⟩
    | false =>
      rw [hb] at ht
      obtain ⟨v, e1, e2⟩ := h.T t x ht
      exact ⟨v, e1, e2.keep he (Keeps.refl _ _)⟩
  all_goals
    have hlk : ∀ j b', hk ⟨n, (s, .own (.loc clk)) :: T, (clk, some (.row e sz [])) :: H, Hp, clk + 1⟩ j = some b' → (j = .loc clk ∧ b' = .row e sz []) ∨ (j ≠ .loc clk ∧ hk ⟨n, T, H, Hp, clk⟩ j = some b') := by
      intro j b' h
      cases j with
      | par k => exact .inr ⟨by simp, h⟩
      | loc k =>
        by_cases e1 : clk = k
        · subst e1
          simp only [hk, lk_cons_self] at h
          exact .inl ⟨rfl, by cases h; rfl⟩
        · simp only [hk, lk_cons_ne e1] at h
          exact .inr ⟨fun e => by injection e with e; exact e1 e.symm, h⟩
  · rcases hlk i b hb with ⟨rfl, rfl⟩ | ⟨h1, h2⟩
    · exact ⟨.slice none 0 0, [], upd_self _ _ _, ⟨by simp, .inl ⟨rfl, rfl⟩⟩, fun x hx => by simp at hx, fun j k x d hx => by simp at hx⟩
    · exact (h.H.ok i b h2).keep he (Keeps.refl _ _) (fun _ _ => rfl)
  · rcases hlk i b hb with ⟨rfl, rfl⟩ | ⟨h1, h2⟩
    · rw [upd_self] at hg; simp [vblk] at hg
    · exact h.H.own i b g h2 (by simpa [upd, h1] using hg)
  · rcases hlk i bi hi with ⟨rfl, e1⟩ | ⟨h1, h2⟩
    · rw [upd_self] at hgi; simp [vblk] at hgi
    · rcases hlk j bj hj with ⟨rfl, e2⟩ | ⟨h3, h4⟩
      · rw [upd_self] at hgj; simp [vblk] at hgj
      · exact h.H.inj i j bi bj g h2 h4 (by simpa [upd, h1] using hgi) (by simpa [upd, h3] using hgj)

/-- append(s, xs...), s a row of the call's own. -/
theorem AL.append {ts : List (Nat × TI)} (hT : TOK P ts) (hw : wantedA l ⟨some d, .call ⟨.builtin .append, #[x, y], #[t, t]⟩, ty, pos, aft, g⟩ ⟨n, T, H, Hp, clk⟩ = some true) (hd : Nat.blt d n = true)
    {i e sz : Nat} {xs ys : List (List D)} {vy : AV} (hx : ev ⟨n, T, H, Hp, clk⟩ x = some (.own (.loc i))) (hi : hk ⟨n, T, H, Hp, clk⟩ (.loc i) = some (.row e sz xs)) (hy : ev ⟨n, T, H, Hp, clk⟩ y = some vy) (hys : rowOf ⟨n, T, H, Hp, clk⟩ vy = some ys)
    {s b : Nat} {z : List AV} (ht : lk ts t = some ⟨.slice e, s, b, z⟩) {ie : TI} (he : lk ts e = some ie) (hsz : Nat.beq ie.size sz = true) (hz0 : Nat.beq ie.zero.length sz = true) (hs0 : Nat.blt 0 sz = true) (hel : ∀ x ∈ ys, x.length = sz)
    (hlen : (xs.length + ys.length) * ie.bytes ≤ 140737488355328) (hlen2 : xs.length + ys.length ≤ 9223372036854775807)
    (h : AL P l Q rest ⟨n, (d, .own (.loc clk)) :: T, (clk, some (.row e sz (xs ++ ys))) :: (i, none) :: H, Hp, clk + 1⟩) : AL P l Q (⟨some d, .call ⟨.builtin .append, #[x, y], #[t, t]⟩, ty, pos, aft, g⟩ :: rest) ⟨n, T, H, Hp, clk⟩ := by
  refine AL.step (σ' := ⟨n, (d, .own (.loc clk)) :: T, (clk, some (.row e sz (xs ++ ys))) :: (i, none) :: H, Hp, clk + 1⟩) hw ?_ h
  rintro c a w ⟨ρ, O, hs⟩ K Q hK
  have hsz := Nat.eq_of_beq_eq_true hsz
  have hs0 : 0 < sz := by simpa using hs0
  obtain ⟨du, hu1, hu2⟩ := (hT.facts ht).und
  have hu3 : du = .slice e := by
    cases du <;> simp [tkOf] at hu2
    rw [hu2]
  subst hu3
  obtain ⟨ti, zv, hinf, his, hib, hiz, hzall⟩ := (hT.facts he).info
  have hzs : zv.cells.size = sz := by
    have h1 := (zall_sound hzall).1
    have h2 := Nat.eq_of_beq_eq_true hz0
    rw [← h2, ← h1]
    simp
  obtain ⟨v, vs, hv, hown, hxl, hxc⟩ := hs.H.ok (.loc i) _ hi
  have hxv := ev_sound hs hx
  have hyv := ev_sound hs hy
  obtain ⟨A, cc, news, hye, hnl, hnc, hnA, hn1, hn2, hn3⟩ := reads_cells (row_reads hs hys hyv) hel hs0
  have hax : a.eval x = v := by
    generalize a.eval x = q at hxv
    cases hxv with
    | own _ _ h1 _ => rw [hv] at h1; injection h1 with h1; exact h1.symm
  have hrun : ∃ v1 w1, (Builtin.append_ #[t, t] ty #[v, .slice A ys.length cc]).run P w = .ok v1 w1 ∧ w1.ownsRow 0 e sz v1 (xs ++ ys).length (vs ++ news) ∧ w.grownBy w1 v.ownBlock ∧ (v1.ownBlock = v.ownBlock ∨ v1.ownBlock = some w.heap.size) := by
    cases A with
    | some ad =>
      obtain ⟨v1, w1, r1, r2, r3, _, r5⟩ := run_append_own_at (P := P) w 0 t ty e ti zv sz ie.bytes hu1 hinf hiz (by rw [his, hsz]) hib hzs hs0 v xs.length vs hown ad ys.length cc news hnl (fun j u => hnc ad rfl j u) hn1 (by simp only [maxLen]; omega) hlen (Nat.zero_le _)
      exact ⟨v1, w1, r1, by rw [List.length_append]; exact r2, r3, r5⟩
    | none =>
      obtain rfl := hnA rfl
      obtain rfl : news = [] := List.eq_nil_of_length_eq_zero (by simpa using hnl)
      refine ⟨v, w, ?_, by simpa using hown, ⟨rfl, rfl, rfl, Nat.le_refl _, fun _ _ _ => rfl⟩, .inl rfl⟩
      rcases hown.2 with ⟨rfl, hn⟩ | ⟨g', cap, cur, rfl, _, _, hnc', _⟩
      · simp [Builtin.append_, run_underlying hu1, sizeOf, typeInfo, hinf, Builtin.lenOf, Builtin.firstCells]
      · simp [Builtin.append_, run_underlying hu1, sizeOf, typeInfo, hinf, Builtin.lenOf, Builtin.firstCells, hnc', storeCells]
  obtain ⟨v1, w1, hr, hown1, hgrow, hat⟩ := hrun
  have hvb : vblk v = v.ownBlock := by
    rcases hown.2 with ⟨rfl, _⟩ | ⟨g', cap, cur, rfl, _⟩ <;> rfl
  have hvb1 : vblk v1 = v1.ownBlock := by
    rcases hown1.2 with ⟨rfl, _⟩ | ⟨g', cap, cur, rfl, _⟩ <;> rfl
  have hone : v1.oneCell' = true := by
    rcases hown1.2 with ⟨rfl, _⟩ | ⟨g', cap, cur, rfl, _⟩ <;> rfl
  have hlt1 : ∀ g', v1.ownBlock = some g' → g' < w1.heap.size := by
    intro g' hg'
    rcases hown1.2 with ⟨rfl, _⟩ | ⟨g2, cap, cur, rfl, _, hh, _⟩
    · simp [Value.ownBlock] at hg'
    · simp [Value.ownBlock] at hg'
      subst hg'
      exact (Array.getElem?_eq_some_iff.1 hh).1
  have hk0 : Keeps O w (fun k => O k ∨ (k = w.heap.size ∧ k < w1.heap.size)) w1 := ⟨hgrow.size, fun k hk hO => hgrow.block k hk (fun e => hO (hs.H.own (.loc i) _ k hi (by rw [hv]; simp only [Option.bind_some]; rw [hvb]; exact e.symm)).1), fun k hk => by
    rcases hk with hk | hk
    · exact .inl hk
    · exact .inr (by omega)⟩
  have hyO : Reads O w (.row ys) (a.eval y) ∨ True := .inr trivial
  have hcells : ∀ (j k : Nat) x d, ys[j]? = some x → x[k]? = some d → ∃ u, news[j * sz + k]? = some u ∧ Reads O w d u := by
    intro j k x' d' hj hk'
    obtain ⟨u, e1, e2⟩ := hn2 j k x' d' hj hk'
    refine ⟨u, e1, ?_⟩
    -- an element's own readings look into no block of O
    cases vy with
    | d yd =>
      cases yd with
      | one => simp [rowOf] at hys
      | row ys' =>
        simp only [rowOf] at hys
        cases hys
        cases hyv with
        | d _ _ hR => exact hn3 O hR j k x' d' u hj hk' e1
    | nilrow =>
      simp only [rowOf] at hys
      cases hys
      simp at hj
    | own iy =>
      simp only [rowOf] at hys
      split at hys
      · rename_i e' sz' ys' hb'
        cases hys
        obtain ⟨v2, vs2, f1, f2, f3, f4⟩ := hs.H.ok iy _ hb'
        obtain ⟨u2, g1, g2⟩ := f4 j k x' d' hj hk'
        have hsz' : sz' = sz := by rw [← f3 x' (List.mem_of_getElem? hj), hel x' (List.mem_of_getElem? hj)]
        subst hsz'
        have hv2 : a.eval y = v2 := by
          generalize a.eval y = q at hyv
          cases hyv with
          | own _ _ h1 _ => rw [f1] at h1; injection h1 with h1; exact h1.symm
        rw [hv2] at hye
        have hAd : ∃ ad, A = some ad := by
          cases A with
          | some ad => exact ⟨ad, rfl⟩
          | none => rw [hnA rfl] at hj; simp at hj
        obtain ⟨ad, rfl⟩ := hAd
        have e3 := hnc ad rfl _ _ e1
        rcases f2.2 with ⟨h5, h6⟩ | ⟨g2', cap, cur, h5, _, hh, _, _, _, htk⟩
        · rw [hye] at h5; cases h5
        · rw [hye] at h5
          injection h5 with h5
          injection h5 with h5
          subst h5
          rw [add_ptr, Nat.zero_add, cell_of_row w g2' _ cur e' (0, 0) hh] at e3
          rw [← htk, List.getElem?_take] at g1
          split at g1
          · rw [Array.getElem?_toList, e3] at g1
            injection g1 with g1
            rw [g1]
            exact g2
          · cases g1
      · cases hys
    | _ => simp [rowOf] at hys
  have hm := rerow_sat hs hi hv (v1 := v1) (w1 := w1) (b := .row e sz (xs ++ ys)) (fun g' hg' => by
      rw [hvb1] at hg'
      rcases hat with h1 | h1
      · rw [hvb, ← h1]; exact .inl hg'
      · rw [h1] at hg'
        injection hg' with hg'
        exact .inr ⟨hg'.symm, by rw [← hg']; exact hlt1 _ h1⟩) hgrow.size (fun k hk hne => hgrow.block k hk (fun e => hne (by rw [hvb]; exact e.symm))) hgrow.os hgrow.tape hgrow.output
    ⟨v1, vs ++ news, upd_self _ _ _, hown1, fun x hx => by
      rcases List.mem_append.1 hx with hx | hx
      · exact hxl x hx
      · exact hel x hx, fun j k x' d' hj hk' => by
      have hvl : vs.length = xs.length * sz := hown.1
      by_cases hjx : j < xs.length
      · rw [List.getElem?_append_left hjx] at hj
        obtain ⟨u, e1, e2⟩ := hxc j k x' d' hj hk'
        refine ⟨u, ?_, e2.keep hk0⟩
        rw [List.getElem?_append_left ((List.getElem?_eq_some_iff.1 e1).1)]
        exact e1
      · rw [List.getElem?_append_right (by omega)] at hj
        obtain ⟨u, e1, e2⟩ := hcells _ k x' d' hj hk'
        refine ⟨u, ?_, e2.keep hk0⟩
        have hmul : j * sz + k = xs.length * sz + ((j - xs.length) * sz + k) := by
          have : j * sz = xs.length * sz + (j - xs.length) * sz := by rw [← Nat.add_mul]; congr 1; omega
          omega
        rw [hmul, ← hvl, List.getElem?_append_right (Nat.le_add_right _ _), Nat.add_sub_cancel_left]
        exact e1⟩
  unfold Oper.wp
  have hex : (execOp a.eval ⟨some d, .call ⟨.builtin .append, #[x, y], #[t, t]⟩, ty, pos, aft, g⟩).run P w = .ok (.value v1) w1 := by
    simp only [execOp, resolve, invoke, builtin, Sem.run_bind, Sem.run_pure, Result.andThen_ok, List.map_toArray, List.map_cons, List.map_nil, hax, hye, hr]
  rw [hex]
  refine hK _ _ ⟨_, _, put_sat hm (x := .own (.loc clk)) (.own _ _ (upd_self _ _ _) hone) ?_⟩
  simp [put, hd]
end

end Go.AM
