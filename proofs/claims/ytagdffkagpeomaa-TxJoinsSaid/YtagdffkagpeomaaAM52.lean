/- A machine over pure data: part 52: a nil slice in a cell is a row of the call's own. -/
import Derived.Test.YtagdffkagpeomaaAM51
set_option linter.unusedVariables false
set_option linter.unusedSimpArgs false
namespace Go.AM
open Go Go.RowKit

section
variable {P : Program} {l rest : List Oper} {Q : Exit → St → Prop} {n d clk : Nat} {T : List (Nat × AV)} {H : List (Nat × Option Blk)} {Hp : List Blk} {code : Code}

theorem nilOwnB_imp (i k e sz : Nat) {eb : TypeId} {cs cs' : List AV} (hi : hk ⟨n, T, H, Hp, clk⟩ (.loc i) = some (.box eb cs)) (hc : cs[k]? = some .nilrow) (hcs : cs.set k (.own (.loc clk)) = cs') :
    Imp ⟨n, T, H, Hp, clk⟩ ⟨n, T, (i, some (.box eb cs')) :: (clk, some (.row e sz [])) :: H, Hp, clk + 1⟩ := by
  subst hcs
  rintro c a w ⟨ρ, O, h⟩
  have hf := h.fresh clk (Nat.le_refl _)
  have he := upd_ext (v := .slice none 0 0) hf
  obtain ⟨g0, vs, r1, r2, r3, r4⟩ := h.H.ok (.loc i) _ hi
  have hic : i ≠ clk := fun e1 => by
    subst e1
    have : ρ (.loc i) = none := hf
    rw [this] at r1
    cases r1
  have hlk : ∀ j b', hk ⟨n, T, (i, some (.box eb (cs.set k (.own (.loc clk))))) :: (clk, some (.row e sz [])) :: H, Hp, clk + 1⟩ j = some b' →
      (j = .loc i ∧ b' = .box eb (cs.set k (.own (.loc clk)))) ∨ (j = .loc clk ∧ b' = .row e sz []) ∨ (j ≠ .loc clk ∧ hk ⟨n, T, H, Hp, clk⟩ j = some b') := by
    intro j b' h
    cases j with
    | par k => exact .inr (.inr ⟨by simp, h⟩)
    | loc k' =>
      by_cases e0 : i = k'
      · subst e0
        simp only [hk, lk_cons_self] at h
        exact .inl ⟨rfl, by cases h; rfl⟩
      · by_cases e1 : clk = k'
        · subst e1
          simp only [hk, lk_cons_ne e0, lk_cons_self] at h
          exact .inr (.inl ⟨rfl, by cases h; rfl⟩)
        · simp only [hk, lk_cons_ne e0, lk_cons_ne e1] at h
          exact .inr (.inr ⟨fun e => by injection e with e; exact e1 e.symm, h⟩)
  have hany : ∀ j b', hk ⟨n, T, (i, some (.box eb (cs.set k (.own (.loc clk))))) :: (clk, some (.row e sz [])) :: H, Hp, clk + 1⟩ j = some b' → j = .loc clk ∨ (j ≠ .loc clk ∧ ∃ b0, hk ⟨n, T, H, Hp, clk⟩ j = some b0) := by
    intro j b' h
    rcases hlk j b' h with ⟨rfl, _⟩ | ⟨rfl, _⟩ | ⟨h1, h2⟩
    · exact .inr ⟨fun e => by injection e with e; exact hic e, _, hi⟩
    · exact .inl rfl
    · exact .inr ⟨h1, _, h2⟩
  refine ⟨upd ρ clk (.slice none 0 0), O, h.defers, h.n, fun k => ?_, fun k hk' => ?_, fun t x ht => ?_, ⟨fun j b hb => ?_, fun j b g hb hg => ?_, fun j j' bi bj g hbi hbj hgi hgj => ?_⟩, h.F⟩
  · simpa [upd] using h.par k
  · simp only at hk'
    have : ρ (.loc k) = none := h.fresh k (by simp only; omega)
    simp only [upd]
    rw [if_neg (by intro e; injection e with e; omega)]
    exact this
  · obtain ⟨v, e1, e2⟩ := h.T t x ht
    exact ⟨v, e1, e2.keep he (Keeps.refl _ _)⟩
  · rcases hlk j b hb with ⟨rfl, rfl⟩ | ⟨rfl, rfl⟩ | ⟨h1, h2⟩
    · refine ⟨g0, vs, he _ _ r1, r2, by simpa using r3, fun m x v hx hv => ?_⟩
      rw [List.getElem?_set] at hx
      by_cases hkm : k = m
      · subst hkm
        rw [if_pos rfl] at hx
        split at hx
        · cases hx
          obtain ⟨q1, q2⟩ := r4 k _ v hc hv
          cases q1
          exact ⟨.own _ _ (upd_self _ _ _) rfl, rfl⟩
        · cases hx
      · rw [if_neg hkm] at hx
        obtain ⟨q1, q2⟩ := r4 m x v hx hv
        exact ⟨q1.keep he (Keeps.refl _ _), q2⟩
    · exact ⟨.slice none 0 0, [], upd_self _ _ _, ⟨by simp, .inl ⟨rfl, rfl⟩⟩, fun x hx => by simp at hx, fun j k x d hx => by simp at hx⟩
    · exact (h.H.ok j b h2).keep he (Keeps.refl _ _) (fun _ _ => rfl)
  · rcases hany j b hb with rfl | ⟨h1, b0, h2⟩
    · rw [upd_self] at hg; simp [vblk] at hg
    · exact h.H.own j b0 g h2 (by simpa [upd, h1] using hg)
  · rcases hany j bi hbi with rfl | ⟨h1, b0, h2⟩
    · rw [upd_self] at hgi; simp [vblk] at hgi
    · rcases hany j' bj hbj with rfl | ⟨h1', b1, h2'⟩
      · rw [upd_self] at hgj; simp [vblk] at hgj
      · exact h.H.inj j j' b0 b1 g h2 h2' (by simpa [upd, h1] using hgi) (by simpa [upd, h1'] using hgj)
theorem AW.nilOwnB (i k e sz : Nat) {eb : TypeId} {cs cs' : List AV} (hi : hk ⟨n, T, H, Hp, clk⟩ (.loc i) = some (.box eb cs)) (hc : cs[k]? = some .nilrow) (hcs : cs.set k (.own (.loc clk)) = cs')
    (h : AW P code Q ⟨n, T, (i, some (.box eb cs')) :: (clk, some (.row e sz [])) :: H, Hp, clk + 1⟩) : AW P code Q ⟨n, T, H, Hp, clk⟩ := AW.imp (nilOwnB_imp i k e sz hi hc hcs) h
theorem AL.nilOwnB (i k e sz : Nat) {eb : TypeId} {cs cs' : List AV} (hi : hk ⟨n, T, H, Hp, clk⟩ (.loc i) = some (.box eb cs)) (hc : cs[k]? = some .nilrow) (hcs : cs.set k (.own (.loc clk)) = cs')
    (h : AL P l Q rest ⟨n, T, (i, some (.box eb cs')) :: (clk, some (.row e sz [])) :: H, Hp, clk + 1⟩) : AL P l Q rest ⟨n, T, H, Hp, clk⟩ := AL.imp (nilOwnB_imp i k e sz hi hc hcs) h
end
end Go.AM
namespace Go.AM
open Go Go.RowKit
section
variable {P : Program} {l rest : List Oper} {Q : Exit → St → Prop} {n d clk : Nat} {T : List (Nat × AV)} {H : List (Nat × Option Blk)} {Hp : List Blk} {code : Code}
/-- A row of the call's own, its elements told in other words. -/
theorem rowE_imp (i : Nat) {e sz : Nat} {xs ys : List (List D)} (hi : hk ⟨n, T, H, Hp, clk⟩ (.loc i) = some (.row e sz xs)) (h : xs = ys) : Imp ⟨n, T, H, Hp, clk⟩ ⟨n, T, (i, some (.row e sz ys)) :: H, Hp, clk⟩ := by
  subst h
  exact retell hi (fun _ _ _ h => h)
theorem rowE_impK (i : Nat) {e sz : Nat} {xs ys : List (List D)} {I : St} (hi : hk ⟨n, T, H, Hp, clk⟩ (.loc i) = some (.row e sz xs)) (h : xs = ys) (hI : Imp ⟨n, T, (i, some (.row e sz ys)) :: H, Hp, clk⟩ I) : Imp ⟨n, T, H, Hp, clk⟩ I := (rowE_imp i hi h).trans hI
theorem AW.rowE (i : Nat) {e sz : Nat} {xs ys : List (List D)} (hi : hk ⟨n, T, H, Hp, clk⟩ (.loc i) = some (.row e sz xs)) (h : xs = ys) (hw : AW P code Q ⟨n, T, (i, some (.row e sz ys)) :: H, Hp, clk⟩) : AW P code Q ⟨n, T, H, Hp, clk⟩ := AW.imp (rowE_imp i hi h) hw
end
end Go.AM
