/- A machine over pure data, and what it says of Go's machine: parts 24 to 40. -/
import Derived.Test.YtagdffkagpeomaaAMB
import Derived.Laws.Slices
import Derived.Laws.CopyRow
import Derived.Laws.MakeOwn
import Derived.Lib.Bytealg
import Derived.Laws.Externs
/- A machine over pure data: part 24: regions that draw their order, where operations make rows or write: each operation's effect, told once, whatever the order. -/
set_option linter.unnecessarySimpa false
set_option linter.unusedVariables false
namespace Go.AM
open Go Go.RowKit

/-- What an operation does to what is known: its slot, and blocks of the call's own. -/
structure Ef where
  sl : Option (Nat × AV)
  bl : List (Nat × Option Blk)

def hasN : List Nat → Nat → Bool
  | [], _ => false
  | x :: r, y => bif Nat.beq x y then true else hasN r y
theorem hasN_iff : ∀ {l : List Nat} {y : Nat}, hasN l y = true ↔ y ∈ l
  | [], y => by simp [hasN]
  | x :: r, y => by
    simp only [hasN, List.mem_cons]
    cases hb : Nat.beq x y with
    | true => simp [(Nat.eq_of_beq_eq_true hb).symm]
    | false =>
      have : y ≠ x := fun e => by subst e; simp at hb
      simp [hasN_iff, this]

/-- The entries of the operations in S, the latest first, above acc. -/
def sel {α : Type} (S : Nat → Bool) (g : Ef → List (Nat × α)) : List (Nat × Ef) → List (Nat × α) → List (Nat × α)
  | [], acc => acc
  | (k, e) :: r, acc => (bif S k then g e else []) ++ sel S g r acc
def fil {α : Type} (h : List Nat) (l : List (Nat × α)) : List (Nat × α) := l.filter fun p => !hasN h p.1

theorem lk_append {α : Type} {l r : List (Nat × α)} {t : Nat} : lk (l ++ r) t = (lk l t).or (lk r t) := by
  induction l with
  | nil => simp [lk]
  | cons p l ih =>
    obtain ⟨s, v⟩ := p
    simp only [List.cons_append, lk]
    cases Nat.beq s t <;> simp [ih]
theorem lk_fil {α : Type} {h : List Nat} {l : List (Nat × α)} {t : Nat} {x : α} (hl : lk (fil h l) t = some x) : t ∉ h ∧ lk l t = some x := by
  induction l with
  | nil => simp [fil, lk] at hl
  | cons p l ih =>
    obtain ⟨s, v⟩ := p
    simp only [fil, List.filter_cons] at hl
    split at hl
    · rename_i hs
      rcases lk_shadow hl with ⟨rfl, rfl⟩ | ⟨hne, hl⟩
      · refine ⟨fun hm => ?_, lk_cons_self ..⟩
        rw [hasN_iff.2 hm] at hs
        cases hs
      · obtain ⟨h1, h2⟩ := ih hl
        exact ⟨h1, by rw [lk_cons_ne hne]; exact h2⟩
    · rename_i hs
      obtain ⟨h1, h2⟩ := ih hl
      refine ⟨h1, ?_⟩
      rw [lk_cons_ne (fun e => ?_)]
      · exact h2
      · subst e
        have : s ∈ h := hasN_iff.1 (by simpa using hs)
        exact h1 this

/-- Selecting more, where what is more has no entry at t, tells the same of t. -/
theorem sel_same {α : Type} {S S' : Nat → Bool} {g : Ef → List (Nat × α)} {acc : List (Nat × α)} {t : Nat} : ∀ {R : List (Nat × Ef)}, (∀ k e, (k, e) ∈ R → S k ≠ S' k → lk (g e) t = none) → lk (sel S g R acc) t = lk (sel S' g R acc) t
  | [], _ => rfl
  | (k, e) :: R, h => by
    simp only [sel, lk_append]
    rw [sel_same (R := R) (fun k e he => h k e (List.mem_cons_of_mem _ he))]
    by_cases hs : S k = S' k
    · rw [hs]
    · have := h k e List.mem_cons_self hs
      cases S k <;> cases S' k <;> simp_all [lk]
/-- One more: as if it were told last, where those told later have no entry at t, or it has none. -/
theorem sel_one {α : Type} {S S' : Nat → Bool} {g : Ef → List (Nat × α)} {acc : List (Nat × α)} {t j : Nat} {ej : Ef} (hj : S j = false) (hj' : S' j = true) (hS : ∀ k, k ≠ j → S' k = S k) : ∀ {R : List (Nat × Ef)}, (R.map Prod.fst).Nodup → (j, ej) ∈ R →
    (∀ k e, (k, e) ∈ R → j < k → S k = true → lk (g e) t = none ∨ lk (g ej) t = none) → (R.map Prod.fst).Pairwise (· > ·) → lk (sel S' g R acc) t = lk (g ej ++ sel S g R acc) t
  | [], _, hm, _, _ => by cases hm
  | (k, e) :: R, hn, hm, hc, hp => by
    simp only [List.map_cons, List.nodup_cons] at hn
    simp only [List.map_cons, List.pairwise_cons] at hp
    rcases List.mem_cons.1 hm with he | hm'
    · cases he
      have hR : lk (sel S' g R acc) t = lk (sel S g R acc) t := sel_same fun k' e' he' hne => by
        have : k' ≠ j := fun e => hn.1 (List.mem_map.2 ⟨(k', e'), he', e⟩)
        exact absurd (hS k' this).symm hne.symm
      simp only [sel, hj, hj', cond_true, cond_false, List.nil_append, lk_append, hR]
    · have hlt : j < k := hp.1 j (List.mem_map.2 ⟨(j, ej), hm', rfl⟩)
      have ih := sel_one hj hj' hS hn.2 hm' (fun k e he => hc k e (List.mem_cons_of_mem _ he)) hp.2 (R := R) (acc := acc)
      have hk : k ≠ j := by omega
      simp only [sel, hS k hk]
      cases hs : S k with
      | false => simpa [hs] using ih
      | true =>
        simp only [cond_true]
        rw [lk_append, ih, lk_append, lk_append, lk_append]
        rcases hc k e List.mem_cons_self hlt hs with h | h
        · rw [h]; simp
        · rw [h]; simp

def push : Ef → St → St
  | e, ⟨n, T, H, Hp, clk⟩ => ⟨n, e.sl.toList ++ T, e.bl ++ H, Hp, clk⟩

/-- Whatever σ tells, σ' tells. -/
structure Le (σ σ' : St) : Prop where
  n : σ.n = σ'.n
  Hp : σ.Hp = σ'.Hp
  clk : σ.clk = σ'.clk
  T : ∀ t x, lk σ.T t = some x → lk σ'.T t = some x
  H : ∀ k b, lk σ.H k = some (some b) → lk σ'.H k = some (some b)

theorem Le.hk {σ σ' : St} (h : Le σ σ') {i : Id} {b : Blk} (hb : hk σ i = some b) : hk σ' i = some b := by
  cases i with
  | par k =>
    simp only [Go.AM.hk] at hb ⊢
    rw [← h.Hp]
    exact hb
  | loc k =>
    simp only [Go.AM.hk] at hb ⊢
    split at hb
    · rename_i b' hb'
      rw [h.H k _ hb']
      exact hb
    · cases hb
theorem SatAt.le {σ σ' : St} (h : Le σ σ') {c : Ctx} {a : Act} {w : World} {ρ : Env} {O : Nat → Prop} (hs : SatAt c σ' a w ρ O) : SatAt c σ a w ρ O :=
  ⟨hs.defers, by rw [h.n]; exact hs.n, hs.par, fun k hk => hs.fresh k (by rw [← h.clk]; exact hk), fun t x ht => hs.T t x (h.T t x ht), ⟨fun i b hb => hs.H.ok i b (h.hk hb), fun i b g hb => hs.H.own i b g (h.hk hb), fun i j bi bj g hi hj => hs.H.inj i j bi bj g (h.hk hi) (h.hk hj)⟩, hs.F⟩
theorem Le.imp {σ σ' : St} (h : Le σ σ') : Imp σ' σ := fun _ _ _ ⟨ρ, O, hs⟩ => ⟨ρ, O, hs.le h⟩
theorem ev_le {σ σ' : St} (h : Le σ σ') {x : Operand} {v : AV} (hx : ev σ x = some v) : ev σ' x = some v := by
  cases x with
  | tmp t => exact h.T t v hx
  | _ => exact hx
theorem aevs_le {β : Type} {σ σ' : St} (h : Le σ σ') {r : β} : ∀ {xs : List Operand} {k : List AV → Option β}, aevs σ xs k = some r → aevs σ' xs k = some r
  | [], k, hk => hk
  | x :: xs, k, hk => by
    simp only [aevs] at hk ⊢
    split at hk
    · rename_i v hv
      rw [ev_le h hv]
      exact aevs_le h hk
    · cases hk
theorem nthK_mono {α β : Type} {r : β} {k k' : α → Option β} (hkk : ∀ x, k x = some r → k' x = some r) : ∀ {l : List α} {n : Nat}, nthK l n k = some r → nthK l n k' = some r
  | x :: l, 0, h => hkk _ (by simpa [nthK] using h)
  | x :: l, n + 1, h => by
    simp only [nthK] at h ⊢
    exact nthK_mono hkk h
  | [], n, h => by simp [nthK] at h
theorem wantedA_le {l : List Oper} {o : Oper} {σ σ' : St} (h : Le σ σ') {b : Bool} (hw : wantedA l o σ = some b) : wantedA l o σ' = some b := by
  unfold wantedA at hw ⊢
  split at hw
  · exact hw
  · rename_i j want hg
    refine nthK_mono (fun oj hoj => ?_) hw
    cases hd : oj.dst with
    | none => simp [hd] at hoj
    | some d =>
      simp only [hd] at hoj ⊢
      cases hl : lk σ.T d with
      | none => simp [hl] at hoj
      | some v =>
        rw [h.T d v hl]
        rw [hl] at hoj
        exact hoj
theorem rowOf_le {σ σ' : St} (h : Le σ σ') {x : AV} {xs : List (List D)} (hx : rowOf σ x = some xs) : rowOf σ' x = some xs := by
  cases x with
  | own i =>
    simp only [rowOf] at hx ⊢
    split at hx
    · rename_i e sz ys hb
      rw [h.hk hb]
      exact hx
    · cases hx
  | d y => cases y <;> simpa [rowOf] using hx
  | _ => simpa [rowOf] using hx
theorem aslice_le {β : Type} {σ σ' : St} (h : Le σ σ') {sz : Nat} {r : β} : ∀ {l : List (Nat × Operand)} {j : Nat} {k : List (List D) → Option β}, aslice σ sz j l k = some r → aslice σ' sz j l k = some r
  | [], j, k, hk => hk
  | (i, x) :: l, j, k, hk => by
    simp only [aslice] at hk ⊢
    cases hb : Nat.beq i j with
    | false => rw [hb] at hk; cases hk
    | true =>
      rw [hb] at hk
      simp only [cond_true] at hk ⊢
      cases hx : ev σ x with
      | none => simp [hx] at hk
      | some v =>
        rw [ev_le h hx]
        rw [hx] at hk
        cases v <;> simp only at hk ⊢ <;>
          (obtain ⟨ds, h1, h2⟩ := toDs_spec hk
           have hmono : ∀ (ys : List AV) (k1 k2 : List D → Option β), (∀ ds, k1 ds = some r → k2 ds = some r) → toDs ys k1 = some r → toDs ys k2 = some r := by
             intro ys
             induction ys with
             | nil => exact fun k1 k2 h3 h4 => h3 _ h4
             | cons y ys ih =>
               intro k1 k2 h3 h4
               simp only [toDs] at h4 ⊢
               split at h4
               · exact ih _ _ (fun ds h5 => h3 _ h5) h4
               · exact ih _ _ (fun ds h5 => h3 _ h5) h4
               · cases h4
           refine hmono _ _ _ (fun ds h5 => ?_) hk
           cases hq : Nat.beq ds.length sz with
           | false => rw [hq] at h5; cases h5
           | true =>
             rw [hq] at h5
             simp only [cond_true] at h5 ⊢
             exact aslice_le h h5)
theorem lend1_le {σ σ' : St} (h : Le σ σ') {x : AV} (hx : pk1 0 (lend1 σ x) = true) : lend1 σ' x = lend1 σ x := by
  cases x with
  | own i =>
    simp only [lend1] at hx ⊢
    split at hx
    · rename_i e sz xs hb
      rw [h.hk hb]
    · cases i <;> simp [pk1, pkI] at hx
  | _ => rfl
theorem lend_le {σ σ' : St} (h : Le σ σ') {x : AV} (hx : pk2 0 (lend σ x) = true) : lend σ' x = lend σ x := by
  cases x with
  | agg xs =>
    simp only [lend]
    congr 1
    refine List.map_congr_left fun y hy => lend1_le h ?_
    exact List.all_eq_true.1 (show (xs.map (lend1 σ)).all (pk1 0) = true from hx) _ (List.mem_map_of_mem hy)
  | own i =>
    refine lend1_le h (x := .own i) ?_
    have hx : pk2 0 (lend1 σ (.own i)) = true := hx
    show pk1 0 (lend1 σ (.own i)) = true
    simp only [lend1] at hx ⊢
    split <;> rename_i hb
    · rfl
    · cases i <;> simp [hb, pk2, pk1, pkI] at hx
  | _ => rfl
theorem lendL_le {σ σ' : St} (h : Le σ σ') {as_ caps ys : List AV} (hys : as_.map (lend σ) ++ caps = ys) (hpk : ys.all (pk2 0) = true) : as_.map (lend σ') ++ caps = ys := by
  subst hys
  congr 1
  refine List.map_congr_left fun x hx => lend_le h ?_
  exact List.all_eq_true.1 hpk _ (List.mem_append_left _ (List.mem_map_of_mem hx))
theorem VOp.le {P : Program} {σ σ' : St} (h : Le σ σ') {o : Oper} {v : AV} (hv : VOp P σ o v) : VOp P σ' o v := VOp.mk fun c a w ρ O hs => hv.h c a w ρ O (hs.le h)
end Go.AM

/- A machine over pure data: part 25: regions that draw their order: the rule. -/
set_option linter.unusedVariables false
namespace Go.AM
open Go Go.RowKit

/-! ### what may be forgotten, and renumbered -/
theorem Imp.weakF (m : Nat → Nat) {n c clk : Nat} {T T' : List (Nat × AV)} {H H' : List (Nat × Option Blk)} {Hp : List Blk} (hm : ∀ j k, j < c → k < c → m j = m k → j = k) (hb : ∀ b ∈ Hp, LFB b ∨ (rnB m b = b ∧ ltB c b = true))
    (hT : ∀ t x, lk T' t = some x → (lk T t = some (rn2 m x) ∧ lt2 c x = true) ∨ (lk T t = some x ∧ LF x))
    (hH : ∀ k b, lk H' k = some (some b) → k < c ∧ hk ⟨n, T, H, Hp, clk⟩ (.loc (m k)) = some (rnB m b) ∧ ltB c b = true) : Imp ⟨n, T, H, Hp, clk⟩ ⟨n, T', H', Hp, c⟩ := by
  rintro cx a w ⟨ρ, O, hs⟩
  have hl : ∀ k, k < c → renum ρ m c (.loc k) = ρ (.loc (m k)) := fun k hk => by simp [renum, hk]
  have hp : ∀ k, renum ρ m c (.par k) = ρ (.par k) := fun _ => rfl
  have view : ∀ i b, hk ⟨n, T', H', Hp, c⟩ i = some b → (∃ k, i = .par k ∧ hk ⟨n, T, H, Hp, clk⟩ i = some b) ∨ ∃ k, i = .loc k ∧ k < c ∧ hk ⟨n, T, H, Hp, clk⟩ (.loc (m k)) = some (rnB m b) ∧ ltB c b = true := by
    intro i b hb
    cases i with
    | par k => exact .inl ⟨k, rfl, hb⟩
    | loc k =>
      simp only [hk] at hb
      split at hb
      · rename_i b' hb'
        cases hb
        exact .inr ⟨k, rfl, hH k b hb'⟩
      · cases hb
  refine ⟨renum ρ m c, O, hs.defers, hs.n, hs.par, fun k hk' => ?_, fun t x ht => ?_, ⟨fun i b hb' => ?_, fun i b g hb' hg => ?_, fun i j bi bj g hbi hbj hgi hgj => ?_⟩, hs.F⟩
  · have : ¬ k < c := by simp only at hk'; omega
    simp [renum, this]
  · rcases hT t x ht with ⟨h1, h2⟩ | ⟨h1, h2⟩
    · obtain ⟨v, e1, e2⟩ := hs.T t _ h1
      exact ⟨v, e1, rn2_vr hl hp h2 e2⟩
    · obtain ⟨v, e1, e2⟩ := hs.T t _ h1
      exact ⟨v, e1, LF.vr (ρ := ρ) (ρ' := renum ρ m c) (fun _ => rfl) h2 e2⟩
  · rcases view i b hb' with ⟨k, rfl, h1⟩ | ⟨k, rfl, h1, h2, h3⟩
    · rcases hb b (List.mem_of_getElem? h1) with h2 | ⟨h2, h3⟩
      · exact LFB.bok (ρ := ρ) (ρ' := renum ρ m c) (fun _ => rfl) (i := .par k) (i' := .par k) rfl h2 (hs.H.ok (.par k) b h1)
      · exact rnB_bok hl hp h3 (i := .par k) (i' := .par k) rfl (by rw [h2]; exact hs.H.ok (.par k) b h1)
    · exact rnB_bok hl hp h3 (hl k h1).symm (hs.H.ok _ _ h2)
  · rcases view i b hb' with ⟨k, rfl, h1⟩ | ⟨k, rfl, h1, h2, h3⟩
    · exact hs.H.own (.par k) b g h1 hg
    · rw [hl k h1] at hg
      obtain ⟨e1, e2, e3⟩ := hs.H.own (.loc (m k)) _ g h2 hg
      exact ⟨e1, e2, e3⟩
  · rcases view i bi hbi with ⟨k, rfl, h1⟩ | ⟨k, rfl, h1, h2, h3⟩ <;> rcases view j bj hbj with ⟨k', rfl, h1'⟩ | ⟨k', rfl, h1', h2', h3'⟩
    · exact hs.H.inj (.par k) (.par k') bi bj g h1 h1' hgi hgj
    · rw [hl k' h1'] at hgj
      have := hs.H.inj (.par k) (.loc (m k')) _ _ g h1 h2' hgi hgj
      cases this
    · rw [hl k h1] at hgi
      have := hs.H.inj (.loc (m k)) (.par k') _ _ g h2 h1' hgi hgj
      cases this
    · rw [hl k h1] at hgi
      rw [hl k' h1'] at hgj
      have := hs.H.inj (.loc (m k)) (.loc (m k')) _ _ g h2 h2' hgi hgj
      injection this with this
      rw [hm k k' h1 h1' this]

/-- Every block of the call's own that is named fulfils p. -/
def idI (p : Nat → Bool) : Id → Bool
  | .loc k => p k
  | .par _ => true
def id1 (p : Nat → Bool) : AV → Bool
  | .agg xs => xs.all lt0
  | .ptr i _ => idI p i
  | .own i => idI p i
  | .rptr i _ _ _ => idI p i
  | .sub i _ _ _ _ => idI p i
  | .bsl i _ => idI p i
  | .d _ => true
  | .nilrow => true
  | .eptr _ => true
  | _ => false
def id2 (p : Nat → Bool) : AV → Bool
  | .agg xs => xs.all (id1 p)
  | .tup xs => xs.all (id1 p)
  | .fn _ xs => xs.all (id1 p)
  | x => id1 p x
def idB (p : Nat → Bool) : Blk → Bool
  | .box _ cells => cells.all (id1 p)
  | _ => true
/-- The block q told by the number top. -/
def sw (q top k : Nat) : Nat := if k = q then top else k

section
variable {p : Nat → Bool} {q top : Nat}
theorem sw_inj (j k : Nat) (hj : j < top) (hk : k < top) (h : sw q top j = sw q top k) : j = k := by
  unfold sw at h
  split at h <;> split at h <;> omega
theorem id1_sw (hp : ∀ k, p k = true → k ≠ q ∧ k < top) {x : AV} (h : id1 p x = true) : rn1 (sw q top) x = x ∧ lt1 top x = true := by
  have hI : ∀ i, idI p i = true → rnI (sw q top) i = i ∧ ltI top i = true := fun i hi => by
    cases i with
    | par k => exact ⟨rfl, rfl⟩
    | loc k =>
      obtain ⟨h1, h2⟩ := hp k hi
      exact ⟨by simp [rnI, sw, h1], by simpa [ltI] using h2⟩
  cases x with
  | ptr i off => obtain ⟨h1, h2⟩ := hI i h; exact ⟨by simp [rn1, h1], h2⟩
  | own i => obtain ⟨h1, h2⟩ := hI i h; exact ⟨by simp [rn1, h1], h2⟩
  | rptr i sz j f => obtain ⟨h1, h2⟩ := hI i h; exact ⟨by simp [rn1, h1], h2⟩
  | sub i sz lo n full => obtain ⟨h1, h2⟩ := hI i h; exact ⟨by simp [rn1, h1], h2⟩
  | bsl i n => obtain ⟨h1, h2⟩ := hI i h; exact ⟨by simp [rn1, h1], h2⟩
  | d y => exact ⟨rfl, rfl⟩
  | nilrow => exact ⟨rfl, rfl⟩
  | eptr r => exact ⟨rfl, rfl⟩
  | agg xs => exact ⟨rfl, h⟩
  | _ => simp [id1] at h
theorem idL_sw (hp : ∀ k, p k = true → k ≠ q ∧ k < top) {xs : List AV} (h : xs.all (id1 p) = true) : xs.map (rn1 (sw q top)) = xs ∧ xs.all (lt1 top) = true := by
  have h1 : ∀ x ∈ xs, rn1 (sw q top) x = x ∧ lt1 top x = true := fun x hx => id1_sw hp (List.all_eq_true.1 h x hx)
  refine ⟨?_, List.all_eq_true.2 fun x hx => (h1 x hx).2⟩
  rw [List.map_congr_left (fun x hx => (h1 x hx).1)]
  simp
theorem id2_sw (hp : ∀ k, p k = true → k ≠ q ∧ k < top) {x : AV} (h : id2 p x = true) : rn2 (sw q top) x = x ∧ lt2 top x = true := by
  cases x with
  | agg xs => obtain ⟨h1, h2⟩ := idL_sw hp h; exact ⟨by simp [rn2, h1], h2⟩
  | tup xs => obtain ⟨h1, h2⟩ := idL_sw hp h; exact ⟨by simp [rn2, h1], h2⟩
  | fn f xs => obtain ⟨h1, h2⟩ := idL_sw hp h; exact ⟨by simp [rn2, h1], h2⟩
  | d y => exact id1_sw hp (x := .d y) h
  | nilrow => exact id1_sw hp (x := .nilrow) h
  | ptr i off => exact id1_sw hp (x := .ptr i off) h
  | eptr y => exact id1_sw hp (x := .eptr y) h
  | rptr i sz j f => exact id1_sw hp (x := .rptr i sz j f) h
  | own i => exact id1_sw hp (x := .own i) h
  | sub i sz lo n full => exact id1_sw hp (x := .sub i sz lo n full) h
  | bsl i n => exact id1_sw hp (x := .bsl i n) h
  | junk => simp [id2, id1] at h
theorem idB_sw (hp : ∀ k, p k = true → k ≠ q ∧ k < top) {b : Blk} (h : idB p b = true) : rnB (sw q top) b = b ∧ ltB top b = true := by
  cases b with
  | box e cells => obtain ⟨h1, h2⟩ := idL_sw hp h; exact ⟨by simp [rnB, h1], h2⟩
  | _ => exact ⟨rfl, rfl⟩
theorem idI_mono {p' : Nat → Bool} (hp : ∀ k, p k = true → p' k = true) {i : Id} (h : idI p i = true) : idI p' i = true := by
  cases i with
  | par k => rfl
  | loc k => exact hp k h
theorem id1_mono {p' : Nat → Bool} (hp : ∀ k, p k = true → p' k = true) {x : AV} (h : id1 p x = true) : id1 p' x = true := by
  cases x <;> first | exact idI_mono hp h | exact h
theorem idL_mono {p' : Nat → Bool} (hp : ∀ k, p k = true → p' k = true) {xs : List AV} (h : xs.all (id1 p) = true) : xs.all (id1 p') = true :=
  List.all_eq_true.2 fun x hx => id1_mono hp (List.all_eq_true.1 h x hx)
theorem id2_mono {p' : Nat → Bool} (hp : ∀ k, p k = true → p' k = true) {x : AV} (h : id2 p x = true) : id2 p' x = true := by
  cases x with
  | agg xs => exact idL_mono hp h
  | tup xs => exact idL_mono hp h
  | fn f xs => exact idL_mono hp h
  | d y => exact id1_mono hp (x := .d y) h
  | nilrow => exact id1_mono hp (x := .nilrow) h
  | ptr i off => exact id1_mono hp (x := .ptr i off) h
  | eptr y => exact id1_mono hp (x := .eptr y) h
  | rptr i sz j f => exact id1_mono hp (x := .rptr i sz j f) h
  | own i => exact id1_mono hp (x := .own i) h
  | sub i sz lo n full => exact id1_mono hp (x := .sub i sz lo n full) h
  | bsl i n => exact id1_mono hp (x := .bsl i n) h
  | junk => exact id1_mono hp (x := .junk) h
theorem idB_mono {p' : Nat → Bool} (hp : ∀ k, p k = true → p' k = true) {b : Blk} (h : idB p b = true) : idB p' b = true := by
  cases b <;> first | exact idL_mono hp h | exact h
end

/-- The block q is named nowhere. -/
structure Fit (q : Nat) (σ : St) : Prop where
  lt : q < σ.clk
  T : ∀ t x, lk σ.T t = some x → ∃ p : Nat → Bool, (∀ k, p k = true → k ≠ q ∧ k < σ.clk) ∧ id2 p x = true
  H : ∀ k b, lk σ.H k = some (some b) → (k ≠ q ∧ k < σ.clk) ∧ ∃ p : Nat → Bool, (∀ k, p k = true → k ≠ q ∧ k < σ.clk) ∧ idB p b = true
  Hp : ∀ b ∈ σ.Hp, LFB b ∨ ∃ p : Nat → Bool, (∀ k, p k = true → k ≠ q ∧ k < σ.clk) ∧ idB p b = true

/-- A new block is told by the number q. -/
theorem Fit.swap {n q top d : Nat} {T : List (Nat × AV)} {H : List (Nat × Option Blk)} {Hp : List Blk} (hf : Fit q ⟨n, T, H, Hp, top⟩) {x x' : AV} {b b' : Blk} (hx : rn2 (sw q top) x = x') (hx2 : lt2 top x = true) (hb : rnB (sw q top) b = b') (hb2 : ltB top b = true) {bl : List (Nat × Option Blk)}
    (hbl : ∀ k b, lk bl k = some b → b = none) : Imp ⟨n, (d, x') :: T, (top, some b') :: (bl ++ H), Hp, top + 1⟩ ⟨n, (d, x) :: T, (q, some b) :: (bl ++ H), Hp, top⟩ := by
  refine Imp.weakF (sw q top) (sw_inj) (fun b hb => (hf.Hp b hb).imp id fun ⟨p, h1, h2⟩ => idB_sw h1 h2) (fun t y hy => ?_) (fun k c hc => ?_)
  · rcases lk_shadow hy with ⟨rfl, rfl⟩ | ⟨hne, hy⟩
    · exact .inl ⟨by rw [hx]; exact lk_cons_self .., hx2⟩
    · obtain ⟨p, h1, h2⟩ := hf.T t y hy
      obtain ⟨h3, h4⟩ := id2_sw h1 h2
      exact .inl ⟨by rw [h3, lk_cons_ne hne]; exact hy, h4⟩
  · rcases lk_shadow hc with ⟨rfl, e⟩ | ⟨hne, hc⟩
    · cases e
      refine ⟨hf.lt, ?_, hb2⟩
      have : sw q top q = top := by simp [sw]
      simp only [hk, this, lk_cons_self, hb]
    · rw [lk_append] at hc
      cases hq1 : lk bl k with
      | some c' =>
        rw [hq1] at hc
        have := hbl k c' hq1
        subst this
        cases hc
      | none =>
        rw [hq1] at hc
        simp only [Option.none_or] at hc
        obtain ⟨⟨h0, h0'⟩, p, h1, h2⟩ := hf.H k c hc
        obtain ⟨h3, h4⟩ := idB_sw h1 h2
        refine ⟨h0', ?_, h4⟩
        have hs : sw q top k = k := by simp [sw, h0]
        have h0'' : top ≠ k := by simp only at h0'; omega
        simp only [hk, hs, lk_cons_ne h0'', lk_append, hq1, Option.none_or, hc, h3]
end Go.AM

/- A machine over pure data: part 26: what each operation of a region that draws its order does, told over every state that knows enough. -/
set_option linter.unusedVariables false
namespace Go.AM
open Go Go.RowKit

def OSp (P : Program) (l : List Oper) (q : Nat) (o : Oper) (σm : St) (e : Ef) : Prop :=
  ∀ σ, Le σm σ → Fit q σ → AL P l (fun ex σ' => ex = .normal ∧ Imp σ' (push e σ)) [o] σ

section
variable {P : Program} {l : List Oper} {q n d clk : Nat} {T : List (Nat × AV)} {H : List (Nat × Option Blk)} {Hp : List Blk} {x y : Operand} {args : Array Operand} {tys : Array TypeId} {t t2 ty : TypeId} {pos : String} {aft : Array Edge} {g : Option (Nat × Bool)}

theorem OSp.v {op : Op} {v : AV} (hw : wantedA l ⟨some d, op, ty, pos, aft, g⟩ ⟨n, T, H, Hp, clk⟩ = some true) (hd : Nat.blt d n = true) (hv : VOp P ⟨n, T, H, Hp, clk⟩ ⟨some d, op, ty, pos, aft, g⟩ v) :
    OSp P l q ⟨some d, op, ty, pos, aft, g⟩ ⟨n, T, H, Hp, clk⟩ ⟨some (d, v), []⟩ := by
  rintro ⟨n', T', H', Hp', clk'⟩ hl hf
  obtain rfl : n = n' := hl.n
  exact AL.v (wantedA_le hl hw) hd (hv.le hl) (AL.nil ⟨rfl, Imp.refl _⟩)
theorem OSp.do {ts : List (Nat × TI)} (hT : TOK P ts) {op : Op} {v : AV} (hw : wantedA l ⟨some d, op, ty, pos, aft, g⟩ ⟨n, T, H, Hp, clk⟩ = some true) (hd : Nat.blt d n = true) (hv : aval ts ⟨n, T, H, Hp, clk⟩ op = some v) :
    OSp P l q ⟨some d, op, ty, pos, aft, g⟩ ⟨n, T, H, Hp, clk⟩ ⟨some (d, v), []⟩ := OSp.v hw hd (.of hT hv)
theorem OSp.no {op : Op} (hw : wantedA l ⟨some d, op, ty, pos, aft, g⟩ ⟨n, T, H, Hp, clk⟩ = some false) (hd : Nat.blt d n = true) : OSp P l q ⟨some d, op, ty, pos, aft, g⟩ ⟨n, T, H, Hp, clk⟩ ⟨some (d, .tup []), []⟩ := by
  rintro ⟨n', T', H', Hp', clk'⟩ hl hf
  obtain rfl : n = n' := hl.n
  exact AL.no (σ' := push ⟨some (d, .tup []), []⟩ ⟨n, T', H', Hp', clk'⟩) (wantedA_le hl hw) (by simp [put, hd, push]) (AL.nil ⟨rfl, Imp.refl _⟩)
theorem OSp.noN {op : Op} (hw : wantedA l ⟨none, op, ty, pos, aft, g⟩ ⟨n, T, H, Hp, clk⟩ = some false) : OSp P l q ⟨none, op, ty, pos, aft, g⟩ ⟨n, T, H, Hp, clk⟩ ⟨none, []⟩ := by
  rintro ⟨n', T', H', Hp', clk'⟩ hl hf
  obtain rfl : n = n' := hl.n
  exact AL.no (wantedA_le hl hw) rfl (AL.nil ⟨rfl, Imp.refl _⟩)
theorem OSp.callS (hw : wantedA l ⟨some d, .call ⟨.value x, args, tys⟩, ty, pos, aft, g⟩ ⟨n, T, H, Hp, clk⟩ = some true) (hd : Nat.blt d n = true) {f : FuncId} {caps as_ : List AV} (hx : ev ⟨n, T, H, Hp, clk⟩ x = some (.fn f caps))
    (ha : aevs ⟨n, T, H, Hp, clk⟩ args.toList some = some as_) {ys : List AV} (hys : (as_.map (lend ⟨n, T, H, Hp, clk⟩)) ++ caps = ys) (hpk : ys.all (pk2 0) = true) {r : AV} (hc : ACallP P f ys r) (hr : scal r = true) :
    OSp P l q ⟨some d, .call ⟨.value x, args, tys⟩, ty, pos, aft, g⟩ ⟨n, T, H, Hp, clk⟩ ⟨some (d, r), []⟩ := by
  rintro ⟨n', T', H', Hp', clk'⟩ hl hf
  obtain rfl : n = n' := hl.n
  exact AL.callS (wantedA_le hl hw) hd (ev_le hl hx) (aevs_le hl ha) (lendL_le hl hys hpk) hpk hc hr (AL.nil ⟨rfl, Imp.refl _⟩)
theorem OSp.callP (hw : wantedA l ⟨some d, .call ⟨.value x, args, tys⟩, ty, pos, aft, g⟩ ⟨n, T, H, Hp, clk⟩ = some true) (hd : Nat.blt d n = true) {f : FuncId} {caps as_ : List AV} (hx : ev ⟨n, T, H, Hp, clk⟩ x = some (.fn f caps))
    (ha : aevs ⟨n, T, H, Hp, clk⟩ args.toList some = some as_) (hpk : (as_ ++ caps).all (pk2 0) = true) {r : AV} (hc : ACallP P f (as_ ++ caps) r) :
    OSp P l q ⟨some d, .call ⟨.value x, args, tys⟩, ty, pos, aft, g⟩ ⟨n, T, H, Hp, clk⟩ ⟨some (d, r), []⟩ := by
  rintro ⟨n', T', H', Hp', clk'⟩ hl hf
  obtain rfl : n = n' := hl.n
  exact AL.callP (wantedA_le hl hw) hd (ev_le hl hx) (aevs_le hl ha) hpk hc (AL.nil ⟨rfl, Imp.refl _⟩)
theorem putK_bind {β : Type} : ∀ (xs : List AV) (n : Nat) (ys : List AV) (k : List AV → Option β), putK xs n ys k = (putK xs n ys some).bind k
  | xs, 0, [], k => by cases xs <;> simp [putK]
  | x :: xs, 0, y :: ys, k => by
    simp only [putK]
    rw [putK_bind xs 0 ys (fun r => k (y :: r)), putK_bind xs 0 ys (fun r => some (y :: r))]
    cases putK xs 0 ys some <;> rfl
  | x :: xs, n + 1, ys, k => by
    simp only [putK]
    rw [putK_bind xs n ys (fun r => k (x :: r)), putK_bind xs n ys (fun r => some (x :: r))]
    cases putK xs n ys some <;> rfl
  | [], 0, y :: ys, k => by simp [putK]
  | [], n + 1, ys, k => by simp [putK]
theorem sw_own {top : Nat} : rn2 (sw q top) (.own (.loc q)) = .own (.loc top) := by simp [rn2, rn1, rnI, sw]
theorem sw_ptr {top : Nat} : rn2 (sw q top) (.ptr (.loc q) 0) = .ptr (.loc top) 0 := by simp [rn2, rn1, rnI, sw]
theorem OSp.callO (hw : wantedA l ⟨some d, .call ⟨.value x, args, tys⟩, ty, pos, aft, g⟩ ⟨n, T, H, Hp, clk⟩ = some true) (hd : Nat.blt d n = true) {f : FuncId} {caps as_ : List AV} (hx : ev ⟨n, T, H, Hp, clk⟩ x = some (.fn f caps))
    (ha : aevs ⟨n, T, H, Hp, clk⟩ args.toList some = some as_) (hpk : (as_ ++ caps).all (pk2 0) = true) {e sz : Nat} {xs : List (List D)} (hc : ACallO P f (as_ ++ caps) e sz (· = xs)) :
    OSp P l q ⟨some d, .call ⟨.value x, args, tys⟩, ty, pos, aft, g⟩ ⟨n, T, H, Hp, clk⟩ ⟨some (d, .own (.loc q)), [(q, some (.row e sz xs))]⟩ := by
  rintro ⟨n', T', H', Hp', clk'⟩ hl hf
  obtain rfl : n = n' := hl.n
  refine AL.callO (wantedA_le hl hw) hd (ev_le hl hx) (aevs_le hl ha) hpk hc (fun ys hys => AL.nil ⟨rfl, ?_⟩)
  subst hys
  exact Fit.swap (b := .row e sz ys) (bl := []) hf sw_own (by simpa [lt2, lt1, ltI] using hf.lt) rfl rfl (fun k b h => by simp [lk] at h)
theorem OSp.buildSlice {ts : List (Nat × TI)} (hT : TOK P ts) {len : Nat} {parts : Array (Nat × Operand)} (hw : wantedA l ⟨some d, .buildSlice t len parts, ty, pos, aft, g⟩ ⟨n, T, H, Hp, clk⟩ = some true) (hd : Nat.blt d n = true)
    {e s b : Nat} {z : List AV} (ht : lk ts t = some ⟨.slice e, s, b, z⟩) {ie : TI} (he : lk ts e = some ie) {xs : List (List D)} (hxs : aslice ⟨n, T, H, Hp, clk⟩ ie.size 0 parts.toList some = some xs) (hlen : Nat.beq parts.size len = true)
    (hsm : Nat.ble (len * ie.size) 16777216 = true) (hsl : Nat.ble len 16777216 = true) :
    OSp P l q ⟨some d, .buildSlice t len parts, ty, pos, aft, g⟩ ⟨n, T, H, Hp, clk⟩ ⟨some (d, .own (.loc q)), [(q, some (.row e ie.size xs))]⟩ := by
  rintro ⟨n', T', H', Hp', clk'⟩ hl hf
  obtain rfl : n = n' := hl.n
  exact AL.buildSlice hT (wantedA_le hl hw) hd ht he (aslice_le hl hxs) hlen hsm hsl (AL.nil ⟨rfl, Fit.swap (b := .row e ie.size xs) (bl := []) hf sw_own (by simpa [lt2, lt1, ltI] using hf.lt) rfl rfl (fun k b h => by simp [lk] at h)⟩)
theorem OSp.append {ts : List (Nat × TI)} (hT : TOK P ts) (hw : wantedA l ⟨some d, .call ⟨.builtin .append, #[x, y], #[t, t]⟩, ty, pos, aft, g⟩ ⟨n, T, H, Hp, clk⟩ = some true) (hd : Nat.blt d n = true)
    {i e sz : Nat} {xs ys : List (List D)} {vy : AV} (hx : ev ⟨n, T, H, Hp, clk⟩ x = some (.own (.loc i))) (hi : hk ⟨n, T, H, Hp, clk⟩ (.loc i) = some (.row e sz xs)) (hy : ev ⟨n, T, H, Hp, clk⟩ y = some vy) (hys : rowOf ⟨n, T, H, Hp, clk⟩ vy = some ys)
    {s b : Nat} {z : List AV} (ht : lk ts t = some ⟨.slice e, s, b, z⟩) {ie : TI} (he : lk ts e = some ie) (hsz : Nat.beq ie.size sz = true) (hz0 : Nat.beq ie.zero.length sz = true) (hs0 : Nat.blt 0 sz = true) (hel : ∀ x ∈ ys, x.length = sz)
    (hlen : (xs.length + ys.length) * ie.bytes ≤ 140737488355328) (hlen2 : xs.length + ys.length ≤ 9223372036854775807) :
    OSp P l q ⟨some d, .call ⟨.builtin .append, #[x, y], #[t, t]⟩, ty, pos, aft, g⟩ ⟨n, T, H, Hp, clk⟩ ⟨some (d, .own (.loc q)), [(q, some (.row e sz (xs ++ ys))), (i, none)]⟩ := by
  rintro ⟨n', T', H', Hp', clk'⟩ hl hf
  obtain rfl : n = n' := hl.n
  refine AL.append hT (wantedA_le hl hw) hd (ev_le hl hx) (hl.hk hi) (ev_le hl hy) (rowOf_le hl hys) ht he hsz hz0 hs0 hel hlen hlen2 (AL.nil ⟨rfl, ?_⟩)
  exact Fit.swap (b := .row e sz (xs ++ ys)) (bl := [(i, none)]) hf sw_own (by simpa [lt2, lt1, ltI] using hf.lt) rfl rfl (fun k b h => by
    rcases lk_shadow h with ⟨rfl, rfl⟩ | ⟨_, h⟩
    · rfl
    · simp [lk] at h)
theorem OSp.alloc {ts : List (Nat × TI)} (hT : TOK P ts) {e : TypeId} (hw : wantedA l ⟨some d, .alloc e, ty, pos, aft, g⟩ ⟨n, T, H, Hp, clk⟩ = some true) (hd : Nat.blt d n = true) {i : TI} (hi : lk ts e = some i) (hz : i.zero.all (id1 fun _ => false) = true) :
    OSp P l q ⟨some d, .alloc e, ty, pos, aft, g⟩ ⟨n, T, H, Hp, clk⟩ ⟨some (d, .ptr (.loc q) 0), [(q, some (.box e i.zero))]⟩ := by
  rintro ⟨n', T', H', Hp', clk'⟩ hl hf
  obtain rfl : n = n' := hl.n
  obtain ⟨h1, h2⟩ := idL_sw (q := q) (top := clk') (p := fun _ => false) (fun k h => by cases h) hz
  refine AL.do hT (σ' := ⟨n, (d, .ptr (.loc clk') 0) :: T', (clk', some (.box e i.zero)) :: H', Hp', clk' + 1⟩) (wantedA_le hl hw) (by simp only [astep, hi]; simp [amk, put, hd]) (AL.nil ⟨rfl, ?_⟩)
  exact Fit.swap (b := .box e i.zero) (bl := []) hf sw_ptr (by simpa [lt2, lt1, ltI] using hf.lt) (by simp [rnB, h1]) h2 (fun k b h => by simp [lk] at h)
theorem OSp.box {ts : List (Nat × TI)} (hT : TOK P ts) {e : TypeId} (hw : wantedA l ⟨some d, .box e x, ty, pos, aft, g⟩ ⟨n, T, H, Hp, clk⟩ = some true) (hd : Nat.blt d n = true) {xs : List AV} (hx : ev ⟨n, T, H, Hp, clk⟩ x = some (.agg xs)) (hc : xs.all isCell = true) (hz : xs.all (id1 fun k => Nat.blt k clk && !Nat.beq k q) = true) :
    OSp P l q ⟨some d, .box e x, ty, pos, aft, g⟩ ⟨n, T, H, Hp, clk⟩ ⟨some (d, .ptr (.loc q) 0), [(q, some (.box e xs))]⟩ := by
  rintro ⟨n', T', H', Hp', clk'⟩ hl hf
  obtain rfl : n = n' := hl.n
  obtain rfl : clk = clk' := hl.clk
  obtain ⟨h1, h2⟩ := idL_sw (q := q) (top := clk) (p := fun k => Nat.blt k clk && !Nat.beq k q) (fun k h => by
    simp only [Bool.and_eq_true, Bool.not_eq_true'] at h
    exact ⟨fun e => (by subst e; simp at h), by simpa using h.1⟩) hz
  refine AL.do hT (σ' := ⟨n, (d, .ptr (.loc clk) 0) :: T', (clk, some (.box e xs)) :: H', Hp', clk + 1⟩) (wantedA_le hl hw) (by simp only [astep, ev_le hl hx]; simp [amk, put, hd, hc]) (AL.nil ⟨rfl, ?_⟩)
  exact Fit.swap (b := .box e xs) (bl := []) hf sw_ptr (by simpa [lt2, lt1, ltI] using hf.lt) (by simp [rnB, h1]) h2 (fun k b h => by simp [lk] at h)
theorem OSp.boxC {ts : List (Nat × TI)} (hT : TOK P ts) {e : TypeId} (hw : wantedA l ⟨some d, .box e x, ty, pos, aft, g⟩ ⟨n, T, H, Hp, clk⟩ = some true) (hd : Nat.blt d n = true) {v : AV} (hx : ev ⟨n, T, H, Hp, clk⟩ x = some v) (hc : isCell v = true) (hz : id1 (fun k => Nat.blt k clk && !Nat.beq k q) v = true) :
    OSp P l q ⟨some d, .box e x, ty, pos, aft, g⟩ ⟨n, T, H, Hp, clk⟩ ⟨some (d, .ptr (.loc q) 0), [(q, some (.box e [v]))]⟩ := by
  rintro ⟨n', T', H', Hp', clk'⟩ hl hf
  obtain rfl : n = n' := hl.n
  obtain rfl : clk = clk' := hl.clk
  obtain ⟨h1, h2⟩ := idL_sw (q := q) (top := clk) (p := fun k => Nat.blt k clk && !Nat.beq k q) (xs := [v]) (fun k h => by
    simp only [Bool.and_eq_true, Bool.not_eq_true'] at h
    exact ⟨fun e => (by subst e; simp at h), by simpa using h.1⟩) (by simpa using hz)
  have hna : ∀ xs, v ≠ .agg xs := fun xs e => by subst e; cases hc
  refine AL.do hT (σ' := ⟨n, (d, .ptr (.loc clk) 0) :: T', (clk, some (.box e [v])) :: H', Hp', clk + 1⟩) (wantedA_le hl hw) (by
    simp only [astep, ev_le hl hx]
    cases v <;> first | (cases hc; done) | (simp only [hc, cond_true, amk, put, hd])) (AL.nil ⟨rfl, ?_⟩)
  exact Fit.swap (b := .box e [v]) (bl := []) hf sw_ptr (by simpa [lt2, lt1, ltI] using hf.lt) (by simp only [rnB, h1]) h2 (fun k b h => by simp [lk] at h)
/-- A store into a variable of the call's own. -/
theorem OSp.store {ts : List (Nat × TI)} (hT : TOK P ts) (hw : wantedA l ⟨none, .store t x y, ty, pos, aft, g⟩ ⟨n, T, H, Hp, clk⟩ = some true) {i : TI} (hi : lk ts t = some i) {id off : Nat} (hx : ev ⟨n, T, H, Hp, clk⟩ x = some (.ptr (.loc id) off)) {e : TypeId} {cells : List AV} (hb : hk ⟨n, T, H, Hp, clk⟩ (.loc id) = some (.box e cells))
    {v : AV} (hv : ev ⟨n, T, H, Hp, clk⟩ y = some v) (hl' : Nat.beq (cellsV v).length i.size = true) (hc : (cellsV v).all isCell = true) {cs : List AV} (hp : putK cells off (cellsV v) some = some cs) :
    OSp P l q ⟨none, .store t x y, ty, pos, aft, g⟩ ⟨n, T, H, Hp, clk⟩ ⟨none, [(id, some (.box e cs))]⟩ := by
  rintro ⟨n', T', H', Hp', clk'⟩ hl hf
  obtain rfl : n = n' := hl.n
  refine AL.step (σ' := ⟨n, T', (id, some (.box e cs)) :: H', Hp', clk'⟩) (wantedA_le hl hw) (astore_step hT hi (ev_le hl hx) (hl.hk hb) (ev_le hl hv) (Nat.eq_of_beq_eq_true hl') hc ?_) (AL.nil ⟨rfl, Imp.refl _⟩)
  rw [putK_bind, hp]
  rfl
end
end Go.AM

/- A machine over pure data: part 27: regions that draw their order: the walk in the text's order serves every order. -/
set_option linter.unusedVariables false
namespace Go.AM
open Go Go.RowKit

abbrev slL (e : Ef) : List (Nat × AV) := e.sl.toList
def mD (D : List (List Nat)) (j k : Nat) : Bool := hasN (D.getD j []) k

/-- What is known where operation j runs: what those have done that come ahead of it in every order. -/
def pre (n : Nat) (T0 : List (Nat × AV)) (H0 : List (Nat × Option Blk)) (Hp : List Blk) (top : Nat) (D HT HH : List (List Nat)) (j : Nat) (R : List (Nat × Ef)) : St :=
  ⟨n, fil (HT.getD j []) (sel (mD D j) slL R T0), fil (HH.getD j []) (sel (mD D j) Ef.bl R H0), Hp, top⟩
def stR (n : Nat) (T0 : List (Nat × AV)) (H0 : List (Nat × Option Blk)) (Hp : List Blk) (top : Nat) (S : Nat → Bool) (R : List (Nat × Ef)) : St :=
  ⟨n, sel S slL R T0, sel S Ef.bl R H0, Hp, top⟩

def hasP : List (Nat × Nat) → Nat → Nat → Bool
  | [], _, _ => false
  | (a, b) :: r, j, i => bif Nat.beq a j && Nat.beq b i then true else hasP r j i
theorem hasP_iff {j i : Nat} : ∀ {M : List (Nat × Nat)}, hasP M j i = true ↔ (j, i) ∈ M
  | [] => by simp [hasP]
  | (a, b) :: r => by
    simp only [hasP, List.mem_cons]
    cases ha : Nat.beq a j with
    | true =>
      have ha := Nat.eq_of_beq_eq_true ha
      subst ha
      cases hb : Nat.beq b i with
      | true => simp [(Nat.eq_of_beq_eq_true hb).symm]
      | false =>
        have : ¬ i = b := fun e => by subst e; simp at hb
        simp [hasP_iff (M := r), this]
    | false =>
      have : ¬ j = a := fun e => by subst e; simp at ha
      simp [hasP_iff (M := r), this]

/-- Its blocks are its own new one, or those that it is told to write. -/
def keyE (clk : Nat) (M : List (Nat × Nat)) (j : Nat) (o : Oper) (e : Ef) : Bool :=
  (match e.sl with
    | some (d, _) => match o.dst with
      | some d' => Nat.beq d d'
      | none => false
    | none => true) && e.bl.all fun x => Nat.beq x.1 (clk + j) || hasP M j x.1
/-- Which blocks what it tells may name. -/
def okP (clk : Nat) (D : List (List Nat)) (j k : Nat) : Bool := Nat.blt k clk || (Nat.ble clk k && (Nat.beq (k - clk) j || mD D j (k - clk)))
def okE (clk : Nat) (D : List (List Nat)) (j : Nat) (e : Ef) : Bool :=
  (match e.sl with
    | some (_, v) => id2 (okP clk D j) v
    | none => true) && e.bl.all fun x => match x.2 with
      | some b => idB (okP clk D j) b
      | none => true

inductive AR (P : Program) (l : List Oper) (Q : Exit → St → Prop) (n : Nat) (T0 : List (Nat × AV)) (H0 : List (Nat × Option Blk)) (Hp : List Blk) (clk top : Nat) (D HT HH : List (List Nat)) (M : List (Nat × Nat)) : Nat → List Oper → List (Nat × Ef) → Prop
  | nil {j R} (h : Q .normal (stR n T0 H0 Hp top (fun _ => true) R)) : AR P l Q n T0 H0 Hp clk top D HT HH M j [] R
  | cons {j R o rest e} (hs : OSp P l (clk + j) o (pre n T0 H0 Hp top D HT HH j R) e) (hk : keyE clk M j o e = true) (ho : okE clk D j e = true)
      (h : AR P l Q n T0 H0 Hp clk top D HT HH M (j + 1) rest ((j, e) :: R)) : AR P l Q n T0 H0 Hp clk top D HT HH M j (o :: rest) R

def dirs (o : Oper) : List Nat := (o.after.toList.filter (Region.binds .any)).map (·.on)
def chkA (l : List Oper) (D : List (List Nat)) (j : Nat) : Bool :=
  match l[j]? with
  | none => true
  | some o => (dirs o).all (fun k => Nat.blt k j) && (D.getD j []).all fun k => hasN (dirs o) k || (dirs o).any fun m => mD D m k
def dstOf (l : List Oper) (k : Nat) : Option Nat := match l[k]? with
  | some o => o.dst
  | none => none
def chkT (l : List Oper) (D HT : List (List Nat)) (j k : Nat) : Bool :=
  match dstOf l k with
  | none => true
  | some t => Nat.beq j k || ((mD D j k || mD D k j || hasN (HT.getD j []) t) && (match dstOf l j with
    | none => true
    | some t' => !Nat.beq t t' || !Nat.blt j k || mD D k j))
def chkM (clk : Nat) (D HH : List (List Nat)) (M : List (Nat × Nat)) (j : Nat) (p : Nat × Nat) : Bool :=
  (Nat.beq j p.1 || mD D j p.1 || mD D p.1 j || hasN (HH.getD j []) p.2) && (Nat.blt p.2 clk || mD D p.1 (p.2 - clk)) && (!hasP M j p.2 || !Nat.blt j p.1 || mD D p.1 j)
def chkD (D : List (List Nat)) (j : Nat) : Bool := (D.getD j []).all fun m => (D.getD m []).all fun k => mD D j k
def chk (l : List Oper) (clk : Nat) (D HT HH : List (List Nat)) (M : List (Nat × Nat)) : Bool :=
  (List.range l.length).all fun j => chkA l D j && chkD D j && (List.range l.length).all (fun k => chkT l D HT j k) && M.all (fun p => Nat.blt p.1 l.length && chkM clk D HH M j p)
def base (clk : Nat) (T0 : List (Nat × AV)) (H0 : List (Nat × Option Blk)) : Bool :=
  T0.all (fun p => id2 (fun k => Nat.blt k clk) p.2) && H0.all fun p => match p.2 with
    | some b => Nat.blt p.1 clk && idB (fun k => Nat.blt k clk) b
    | none => true

theorem lk_mem' {α : Type} {l : List (Nat × α)} {t : Nat} {x : α} (h : lk l t = some x) : (t, x) ∈ l := lk_mem h
theorem sel_mem {α : Type} {S : Nat → Bool} {g : Ef → List (Nat × α)} {acc : List (Nat × α)} {t : Nat} {x : α} : ∀ {R : List (Nat × Ef)}, lk (sel S g R acc) t = some x → (∃ k e, (k, e) ∈ R ∧ S k = true ∧ lk (g e) t = some x) ∨ lk acc t = some x
  | [], h => .inr h
  | (k, e) :: R, h => by
    simp only [sel, lk_append] at h
    cases hS : S k with
    | false =>
      rw [hS] at h
      simp only [cond_false, lk, Option.none_or] at h
      rcases sel_mem h with ⟨k', e', h1, h2, h3⟩ | h
      · exact .inl ⟨k', e', List.mem_cons_of_mem _ h1, h2, h3⟩
      · exact .inr h
    | true =>
      rw [hS] at h
      simp only [cond_true] at h
      cases hg : lk (g e) t with
      | some y =>
        rw [hg] at h
        simp at h
        subst h
        exact .inl ⟨k, e, List.mem_cons_self, hS, hg⟩
      | none =>
        rw [hg] at h
        simp only [Option.none_or] at h
        rcases sel_mem h with ⟨k', e', h1, h2, h3⟩ | h
        · exact .inl ⟨k', e', List.mem_cons_of_mem _ h1, h2, h3⟩
        · exact .inr h
theorem sel_congr {α : Type} {S S' : Nat → Bool} {g : Ef → List (Nat × α)} {acc : List (Nat × α)} : ∀ {R : List (Nat × Ef)}, (∀ k e, (k, e) ∈ R → S k = S' k) → sel S g R acc = sel S' g R acc
  | [], _ => rfl
  | (k, e) :: R, h => by
    simp only [sel]
    rw [h k e List.mem_cons_self, sel_congr (R := R) (fun k e he => h k e (List.mem_cons_of_mem _ he))]

section
variable {P : Program} {l : List Oper} {Q : Exit → St → Prop} {n clk top : Nat} {T0 : List (Nat × AV)} {H0 : List (Nat × Option Blk)} {Hp : List Blk} {D HT HH : List (List Nat)} {M : List (Nat × Nat)}

structure Good (P : Program) (l : List Oper) (n : Nat) (T0 : List (Nat × AV)) (H0 : List (Nat × Option Blk)) (Hp : List Blk) (clk top : Nat) (D HT HH : List (List Nat)) (M : List (Nat × Nat)) (j : Nat) (R : List (Nat × Ef)) : Prop where
  all : ∀ k e, (k, e) ∈ R → ∃ o, l[k]? = some o ∧ OSp P l (clk + k) o (pre n T0 H0 Hp top D HT HH k R) e ∧ keyE clk M k o e = true ∧ okE clk D k e = true
  lt : ∀ k e, (k, e) ∈ R → k < j
  has : ∀ k, k < j → ∃ e, (k, e) ∈ R
  nodup : (R.map Prod.fst).Nodup
  pw : (R.map Prod.fst).Pairwise (· > ·)

theorem mD_lt (hc : ∀ j, j < l.length → chkA l D j = true) {j k : Nat} (hj : j < l.length) (h : mD D j k = true) : k < j := by
  have h1 : ∀ m, m ≤ l.length → ∀ j, j < m → ∀ k, mD D j k = true → k < j := by
    intro m
    induction m with
    | zero => intro _ j hj; omega
    | succ m ih =>
      intro hm j hj k hk
      have h2 := hc j (by omega)
      unfold chkA at h2
      rw [List.getElem?_eq_getElem (show j < l.length by omega)] at h2
      simp only [Bool.and_eq_true, List.all_eq_true] at h2
      have h3 := h2.2 k (hasN_iff.1 hk)
      simp only [Bool.or_eq_true, List.any_eq_true] at h3
      rcases h3 with h3 | ⟨d, h4, h5⟩
      · simpa using h2.1 k (hasN_iff.1 h3)
      · have h6 : d < j := by simpa using h2.1 d h4
        by_cases hd : d < m
        · have := ih (by omega) d hd k h5
          omega
        · omega
  exact h1 l.length (Nat.le_refl _) j hj k h

theorem AR.good (hc : ∀ j, j < l.length → chkA l D j = true) : ∀ {j : Nat} {rest : List Oper} {R : List (Nat × Ef)}, AR P l Q n T0 H0 Hp clk top D HT HH M j rest R → l.drop j = rest → j + rest.length = l.length → Good P l n T0 H0 Hp clk top D HT HH M j R →
    ∃ Rf, Good P l n T0 H0 Hp clk top D HT HH M l.length Rf ∧ Q .normal (stR n T0 H0 Hp top (fun _ => true) Rf) := by
  intro j rest R h
  induction h with
  | nil h =>
    intro hd hlen hg
    rename_i j R
    have hj : j = l.length := by simpa using hlen
    subst hj
    exact ⟨_, hg, h⟩
  | cons hs hk ho h ih =>
    intro hd hlen hg
    rename_i j R o rest e
    simp only [List.length_cons] at hlen
    have hjl : j < l.length := by omega
    have hlj : l[j]? = some o := by
      have h1 := congrArg (fun x => x[0]?) hd
      simp only [List.getElem?_drop, Nat.add_zero, List.getElem?_cons_zero] at h1
      exact h1
    have hpre : ∀ k, k ≤ j → k < l.length → pre n T0 H0 Hp top D HT HH k ((j, e) :: R) = pre n T0 H0 Hp top D HT HH k R := by
      intro k hk' hkl
      have : mD D k j = false := by
        cases hm : mD D k j with
        | false => rfl
        | true => have := mD_lt hc hkl hm; omega
      simp only [pre, sel, this, cond_false, List.nil_append]
    refine ih ?_ (by omega) ⟨fun k e' he => ?_, fun k e' he => ?_, fun k hk' => ?_, ?_, ?_⟩
    · rw [← List.drop_drop, hd]
      rfl
    · rcases List.mem_cons.1 he with he | he
      · cases he
        exact ⟨o, hlj, by rw [hpre j (Nat.le_refl _) hjl]; exact hs, hk, ho⟩
      · obtain ⟨o', h1, h2, h3, h4⟩ := hg.all k e' he
        have := hg.lt k e' he
        exact ⟨o', h1, by rw [hpre k (by omega) (by omega)]; exact h2, h3, h4⟩
    · rcases List.mem_cons.1 he with he | he
      · cases he; omega
      · have := hg.lt k e' he; omega
    · by_cases hkj : k = j
      · subst hkj; exact ⟨e, List.mem_cons_self⟩
      · obtain ⟨e', he'⟩ := hg.has k (by omega)
        exact ⟨e', List.mem_cons_of_mem _ he'⟩
    · simp only [List.map_cons, List.nodup_cons]
      refine ⟨fun hm => ?_, hg.nodup⟩
      obtain ⟨⟨k, e'⟩, h1, h2⟩ := List.mem_map.1 hm
      simp only at h2
      subst h2
      have := hg.lt k e' h1
      omega
    · simp only [List.map_cons, List.pairwise_cons]
      refine ⟨fun k hm => ?_, hg.pw⟩
      obtain ⟨⟨k', e'⟩, h1, h2⟩ := List.mem_map.1 hm
      simp only at h2
      subst h2
      exact hg.lt k' e' h1
end
end Go.AM

/- A machine over pure data: part 28: regions that draw their order: soundness. -/
set_option linter.unusedVariables false
namespace Go.AM
open Go Go.RowKit

section
variable {P : Program} {l : List Oper} {Q : Exit → St → Prop} {n clk top : Nat} {T0 : List (Nat × AV)} {H0 : List (Nat × Option Blk)} {Hp : List Blk} {D HT HH : List (List Nat)} {M : List (Nat × Nat)}

structure Chk (l : List Oper) (clk : Nat) (D HT HH : List (List Nat)) (M : List (Nat × Nat)) : Prop where
  a : ∀ j, j < l.length → chkA l D j = true
  d : ∀ j m k, j < l.length → mD D j m = true → mD D m k = true → mD D j k = true
  t : ∀ j k, j < l.length → k < l.length → chkT l D HT j k = true
  m : ∀ j p, j < l.length → p ∈ M → p.1 < l.length ∧ chkM clk D HH M j p = true
theorem chk_spec (h : chk l clk D HT HH M = true) : Chk l clk D HT HH M := by
  unfold chk at h
  simp only [List.all_eq_true, List.mem_range, Bool.and_eq_true] at h
  refine ⟨fun j hj => (h j hj).1.1.1, fun j m k hj hm hk => ?_, fun j k hj hk => (h j hj).1.2 k hk, fun j p hj hp => ?_⟩
  · have := (h j hj).1.1.2
    unfold chkD at this
    simp only [List.all_eq_true] at this
    exact this m (hasN_iff.1 hm) k (hasN_iff.1 hk)
  · have := (h j hj).2 p hp
    exact ⟨by simpa using this.1, this.2⟩

/-- What has been done is whole: whatever one leans on has been done, too. -/
def Down (l : List Oper) (S : Nat → Bool) : Prop := ∀ k o, l[k]? = some o → S k = true → ∀ d ∈ dirs o, S d = true
theorem down_mD (hc : Chk l clk D HT HH M) {S : Nat → Bool} (hS : Down l S) : ∀ (j : Nat), ∀ o, l[j]? = some o → (∀ d ∈ dirs o, S d = true) → ∀ k, mD D j k = true → S k = true := by
  intro j
  induction j using Nat.strongRecOn with
  | ind j ih =>
    intro o ho hd k hk
    have hj : j < l.length := (List.getElem?_eq_some_iff.1 ho).1
    have h2 := hc.a j hj
    unfold chkA at h2
    rw [ho] at h2
    simp only [Bool.and_eq_true, List.all_eq_true] at h2
    have h3 := h2.2 k (hasN_iff.1 hk)
    simp only [Bool.or_eq_true, List.any_eq_true] at h3
    rcases h3 with h3 | ⟨m, h4, h5⟩
    · exact hd k (hasN_iff.1 h3)
    · have hm : m < j := by simpa using h2.1 m h4
      have hSm := hd m h4
      obtain ⟨om, hom⟩ : ∃ om, l[m]? = some om := ⟨_, List.getElem?_eq_getElem (by omega)⟩
      exact ih m hm om hom (fun d hd' => hS m om hom hSm d hd') k h5
theorem down_done (hc : Chk l clk D HT HH M) {S : Nat → Bool} (hS : Down l S) {j : Nat} (hj : j < l.length) (hSj : S j = true) {k : Nat} (hk : mD D j k = true) : S k = true := by
  obtain ⟨o, ho⟩ : ∃ o, l[j]? = some o := ⟨_, List.getElem?_eq_getElem hj⟩
  exact down_mD hc hS j o ho (fun d hd => hS j o ho hSj d hd) k hk

theorem key_sl {k : Nat} {o : Oper} {e : Ef} (h : keyE clk M k o e = true) (ho : l[k]? = some o) {t : Nat} {x : AV} (hx : lk (slL e) t = some x) : dstOf l k = some t ∧ e.sl = some (t, x) := by
  unfold keyE at h
  simp only [Bool.and_eq_true] at h
  cases hs : e.sl with
  | none => simp [slL, hs, lk] at hx
  | some p =>
    obtain ⟨d, v⟩ := p
    rw [hs] at h
    simp only [slL, hs, Option.toList_some] at hx
    rcases lk_shadow hx with ⟨rfl, rfl⟩ | ⟨_, hx⟩
    · simp only at h
      cases hd : o.dst with
      | none => simp [hd] at h
      | some d' =>
        simp only [hd] at h
        have := Nat.eq_of_beq_eq_true h.1
        subst this
        exact ⟨by simp [dstOf, ho, hd], rfl⟩
    · simp [lk] at hx
theorem key_bl {k : Nat} {o : Oper} {e : Ef} (h : keyE clk M k o e = true) {t : Nat} {x : Option Blk} (hx : lk e.bl t = some x) : t = clk + k ∨ (k, t) ∈ M := by
  unfold keyE at h
  simp only [Bool.and_eq_true, List.all_eq_true] at h
  have := h.2 _ (lk_mem' hx)
  simp only [Bool.or_eq_true] at this
  rcases this with h | h
  · exact .inl (Nat.eq_of_beq_eq_true h)
  · exact .inr (hasP_iff.1 h)

theorem some_ne_none {α : Type} {o : Option α} (h : o ≠ none) : ∃ x, o = some x := by
  cases o with
  | none => exact absurd rfl h
  | some x => exact ⟨x, rfl⟩

theorem base_H (hb : base clk T0 H0 = true) {k : Nat} {b : Blk} (h : lk H0 k = some (some b)) : k < clk ∧ idB (fun k => Nat.blt k clk) b = true := by
  unfold base at hb
  simp only [Bool.and_eq_true, List.all_eq_true] at hb
  have := hb.2 _ (lk_mem' h)
  simp only [Bool.and_eq_true] at this
  exact ⟨by simpa using this.1, this.2⟩
theorem base_T (hb : base clk T0 H0 = true) {t : Nat} {x : AV} (h : lk T0 t = some x) : id2 (fun k => Nat.blt k clk) x = true := by
  unfold base at hb
  simp only [Bool.and_eq_true, List.all_eq_true] at hb
  exact hb.1 _ (lk_mem' h)

theorem pre_le (hc : Chk l clk D HT HH M) (hb : base clk T0 H0 = true) {R : List (Nat × Ef)} {N : Nat} (hN : N ≤ l.length) (hR : Good P l n T0 H0 Hp clk top D HT HH M N R) {S : Nat → Bool} (hS : Down l S) {j : Nat} (hj : j < l.length) (hSj : S j = false)
    (hD : ∀ k, mD D j k = true → S k = true) : Le (pre n T0 H0 Hp top D HT HH j R) (stR n T0 H0 Hp top S R) := by
  refine ⟨rfl, rfl, rfl, fun t x ht => ?_, fun t b ht => ?_⟩
  · obtain ⟨h1, h2⟩ := lk_fil ht
    simp only [stR]
    rw [← h2]
    refine sel_same fun k e he hne => ?_
    obtain ⟨o, ho, _, hk, _⟩ := hR.all k e he
    have hkl := Nat.lt_of_lt_of_le (hR.lt k e he) hN
    refine Classical.byContradiction fun hn => ?_
    obtain ⟨y, hy⟩ := some_ne_none hn
    obtain ⟨hd, _⟩ := key_sl hk ho hy
    have hSk : S k = true ∧ mD D j k = false := by
      cases hm : mD D j k with
      | true => rw [hD k hm, hm] at hne; exact absurd rfl hne
      | false => cases hs : S k with
        | true => exact ⟨rfl, rfl⟩
        | false => rw [hs, hm] at hne; exact absurd rfl hne
    have hkj : k ≠ j := fun e => by subst e; rw [hSk.1] at hSj; cases hSj
    have hch := hc.t j k hj hkl
    unfold chkT at hch
    rw [hd] at hch
    simp only [Bool.or_eq_true, Bool.and_eq_true] at hch
    rcases hch with h | ⟨h, _⟩
    · exact hkj (Nat.eq_of_beq_eq_true h).symm
    · rcases h with (h | h) | h
      · rw [h] at hSk; exact absurd hSk.2 (by simp)
      · have := down_done hc hS hkl hSk.1 h
        rw [this] at hSj; cases hSj
      · exact h1 (hasN_iff.1 h)
  · obtain ⟨h1, h2⟩ := lk_fil ht
    simp only [stR]
    rw [← h2]
    refine sel_same fun k e he hne => ?_
    obtain ⟨o, ho, _, hk, _⟩ := hR.all k e he
    have hkl := Nat.lt_of_lt_of_le (hR.lt k e he) hN
    refine Classical.byContradiction fun hn => ?_
    obtain ⟨y, hy⟩ := some_ne_none hn
    have hSk : S k = true ∧ mD D j k = false := by
      cases hm : mD D j k with
      | true => rw [hD k hm, hm] at hne; exact absurd rfl hne
      | false => cases hs : S k with
        | true => exact ⟨rfl, rfl⟩
        | false => rw [hs, hm] at hne; exact absurd rfl hne
    have hkj : k ≠ j := fun e => by subst e; rw [hSk.1] at hSj; cases hSj
    rcases key_bl hk hy with rfl | hM
    · -- a new block of an operation that this one doesn't wait for
      rcases sel_mem h2 with ⟨m, em, g1, g2, g3⟩ | h0
      · obtain ⟨om, hom, _, hkm, _⟩ := hR.all m em g1
        rcases key_bl hkm g3 with h | h
        · have : m = k := by omega
          subst this
          rw [hSk.2] at g2; cases g2
        · have hml := Nat.lt_of_lt_of_le (hR.lt m em g1) hN
          have hch := (hc.m j _ hj h).2
          unfold chkM at hch
          simp only [Bool.and_eq_true, Bool.or_eq_true] at hch
          have := hch.1.2
          rcases this with h3 | h3
          · have : clk + k < clk := by simpa using h3
            omega
          · rw [show clk + k - clk = k by omega] at h3
            have := hc.d j m k hj g2 h3
            rw [hSk.2] at this; cases this
      · have := (base_H hb h0).1
        omega
    · have hch := (hc.m j _ hj hM).2
      unfold chkM at hch
      simp only [Bool.and_eq_true, Bool.or_eq_true] at hch
      rcases hch.1.1 with ((h | h) | h) | h
      · exact hkj (Nat.eq_of_beq_eq_true h).symm
      · rw [h] at hSk; exact absurd hSk.2 (by simp)
      · have := down_done hc hS hkl hSk.1 h
        rw [this] at hSj; cases hSj
      · exact h1 (hasN_iff.1 h)

theorem okP_spec (hc : Chk l clk D HT HH M) (htop : top = clk + l.length) {S : Nat → Bool} (hS : Down l S) {i k : Nat} (hSi : S i = false) (hk : k < l.length) (hSk : S k = true) {k' : Nat} (h : okP clk D k k' = true) : k' ≠ clk + i ∧ k' < top := by
  unfold okP at h
  simp only [Bool.or_eq_true, Bool.and_eq_true] at h
  rcases h with h | ⟨h0, h⟩
  · have : k' < clk := by simpa using h
    omega
  · have h0 : clk ≤ k' := by simpa using h0
    rcases h with h | h
    · have := Nat.eq_of_beq_eq_true h
      refine ⟨fun e => ?_, by omega⟩
      have : k = i := by omega
      subst this
      rw [hSk] at hSi; cases hSi
    · have h1 := down_done hc hS hk hSk h
      have h2 := mD_lt hc.a hk h
      refine ⟨fun e => ?_, by omega⟩
      have : k' - clk = i := by omega
      rw [this] at h1
      rw [h1] at hSi; cases hSi

theorem fit_st (hc : Chk l clk D HT HH M) (htop : top = clk + l.length) (hb : base clk T0 H0 = true) (hp : ∀ b ∈ Hp, LFB b ∨ idB (fun k => Nat.blt k clk) b = true) {R : List (Nat × Ef)} {N : Nat} (hN : N ≤ l.length) (hR : Good P l n T0 H0 Hp clk top D HT HH M N R) {S : Nat → Bool} (hS : Down l S) {i : Nat} (hi : i < l.length) (hSi : S i = false) :
    Fit (clk + i) (stR n T0 H0 Hp top S R) := by
  have h0 : ∀ k', (fun k => Nat.blt k clk) k' = true → k' ≠ clk + i ∧ k' < top := fun k' h => by
    have : k' < clk := by simpa using h
    omega
  refine ⟨by simp only [stR]; omega, fun t x ht => ?_, fun t b ht => ?_, fun b hb => (hp b hb).imp id fun h => ⟨_, h0, h⟩⟩
  · rcases sel_mem ht with ⟨k, e, h1, h2, h3⟩ | h
    · obtain ⟨o, ho, _, hk, hok⟩ := hR.all k e h1
      have hkl := Nat.lt_of_lt_of_le (hR.lt k e h1) hN
      obtain ⟨_, hs⟩ := key_sl hk ho h3
      unfold okE at hok
      rw [hs] at hok
      simp only [Bool.and_eq_true] at hok
      exact ⟨okP clk D k, fun k' h => okP_spec hc htop hS hSi hkl h2 h, hok.1⟩
    · exact ⟨_, h0, base_T hb h⟩
  · rcases sel_mem ht with ⟨k, e, h1, h2, h3⟩ | h
    · obtain ⟨o, ho, _, hk, hok⟩ := hR.all k e h1
      have hkl := Nat.lt_of_lt_of_le (hR.lt k e h1) hN
      have hkey : t ≠ clk + i ∧ t < top := by
        rcases key_bl hk h3 with rfl | hM
        · refine ⟨fun e => ?_, by omega⟩
          have : k = i := by omega
          subst this
          rw [h2] at hSi; cases hSi
        · have hch := (hc.m k _ hkl hM).2
          unfold chkM at hch
          simp only [Bool.and_eq_true, Bool.or_eq_true] at hch
          rcases hch.1.2 with h | h
          · have : t < clk := by simpa using h
            omega
          · by_cases ht : t < clk
            · omega
            · have g1 := down_done hc hS hkl h2 h
              have g2 := mD_lt hc.a hkl h
              refine ⟨fun e => ?_, by omega⟩
              have : t - clk = i := by omega
              rw [this] at g1
              rw [g1] at hSi; cases hSi
      refine ⟨hkey, okP clk D k, fun k' h => okP_spec hc htop hS hSi hkl h2 h, ?_⟩
      unfold okE at hok
      simp only [Bool.and_eq_true, List.all_eq_true] at hok
      exact hok.2 _ (lk_mem' h3)
    · obtain ⟨g1, g2⟩ := base_H hb h
      exact ⟨by simp only [stR]; omega, _, h0, g2⟩

theorem push_imp (hc : Chk l clk D HT HH M) {R : List (Nat × Ef)} {N : Nat} (hN : N ≤ l.length) (hR : Good P l n T0 H0 Hp clk top D HT HH M N R) {S S' : Nat → Bool} (hS : Down l S) {i : Nat} (hi : i < l.length) (hSi : S i = false) (hSi' : S' i = true) (hSS : ∀ k, k ≠ i → S' k = S k) {e : Ef} (he : (i, e) ∈ R) :
    Imp (push e (stR n T0 H0 Hp top S R)) (stR n T0 H0 Hp top S' R) := by
  obtain ⟨o, ho, _, hke, _⟩ := hR.all i e he
  refine Le.imp ⟨rfl, rfl, rfl, fun t x ht => ?_, fun t b ht => ?_⟩
  · simp only [stR, push] at ht ⊢
    rw [← ht]
    refine (sel_one (g := slL) (acc := T0) (t := t) (ej := e) hSi hSi' hSS hR.nodup he (fun k e' he' hlt hSk => ?_) hR.pw).symm
    refine Classical.byContradiction fun hn => ?_
    rw [not_or] at hn
    obtain ⟨y, hy⟩ := some_ne_none hn.1
    obtain ⟨z, hz⟩ := some_ne_none hn.2
    obtain ⟨ok, hok, _, hkk, _⟩ := hR.all k e' he'
    have hkl := Nat.lt_of_lt_of_le (hR.lt k e' he') hN
    obtain ⟨d1, _⟩ := key_sl hkk hok hy
    obtain ⟨d2, _⟩ := key_sl hke ho hz
    have hch := hc.t k i hkl hi
    unfold chkT at hch
    rw [d2] at hch
    simp only [d1, Bool.or_eq_true, Bool.and_eq_true] at hch
    have hch2 := hc.t i k hi hkl
    unfold chkT at hch2
    rw [d1] at hch2
    simp only [d2, Bool.or_eq_true, Bool.and_eq_true, Bool.not_eq_true'] at hch2
    rcases hch2 with h | ⟨_, h⟩
    · have := Nat.eq_of_beq_eq_true h; omega
    · rcases h with (h | h) | h
      · simp at h
      · have : Nat.blt i k = true := by simpa using hlt
        rw [this] at h; cases h
      · have h3 := down_done hc hS hkl hSk h
        rw [h3] at hSi; cases hSi
  · simp only [stR, push] at ht ⊢
    rw [← ht]
    refine (sel_one (g := Ef.bl) (acc := H0) (t := t) (ej := e) hSi hSi' hSS hR.nodup he (fun k e' he' hlt hSk => ?_) hR.pw).symm
    refine Classical.byContradiction fun hn => ?_
    rw [not_or] at hn
    obtain ⟨y, hy⟩ := some_ne_none hn.1
    obtain ⟨z, hz⟩ := some_ne_none hn.2
    obtain ⟨ok, hok, _, hkk, _⟩ := hR.all k e' he'
    have hkl := Nat.lt_of_lt_of_le (hR.lt k e' he') hN
    rcases key_bl hkk hy with h1 | h1 <;> rcases key_bl hke hz with h2 | h2
    · omega
    · subst h1
      have hch := (hc.m i _ hi h2).2
      unfold chkM at hch
      simp only [Bool.and_eq_true, Bool.or_eq_true] at hch
      rcases hch.1.2 with h | h
      · have : clk + k < clk := by simpa using h
        omega
      · rw [show clk + k - clk = k by omega] at h
        have := mD_lt hc.a hi h
        omega
    · subst h2
      have hch := (hc.m k _ hkl h1).2
      unfold chkM at hch
      simp only [Bool.and_eq_true, Bool.or_eq_true] at hch
      rcases hch.1.2 with h | h
      · have : clk + i < clk := by simpa using h
        omega
      · rw [show clk + i - clk = i by omega] at h
        have := down_done hc hS hkl hSk h
        rw [this] at hSi; cases hSi
    · have hch := (hc.m i _ hi h1).2
      unfold chkM at hch
      simp only [Bool.and_eq_true, Bool.or_eq_true, Bool.not_eq_true'] at hch
      rcases hch.2 with (h | h) | h
      · have : hasP M i t = true := hasP_iff.2 h2
        rw [this] at h; cases h
      · have : Nat.blt i k = true := by simpa using hlt
        rw [this] at h; cases h
      · have := down_done hc hS hkl hSk h
        rw [this] at hSi; cases hSi
end
end Go.AM

/- A machine over pure data: part 29: regions that draw their order: the rule, ready for walks. -/
set_option linter.unusedVariables false
namespace Go.AM
open Go Go.RowKit

section
variable {P : Program} {l : List Oper} {Q : Exit → St → Prop} {n clk : Nat} {T0 : List (Nat × AV)} {H0 : List (Nat × Option Blk)} {Hp : List Blk} {D HT HH : List (List Nat)} {M : List (Nat × Nat)}

def lst (a : Array Bool) (k : Nat) : Bool := a.getD k false

theorem count_set : ∀ {L : List Bool} {i : Nat}, L[i]? = some false → (L.set i true).count false + 1 = L.count false
  | [], i, h => by simp at h
  | b :: L, 0, h => by
    simp at h
    subst h
    simp
  | b :: L, i + 1, h => by
    have := count_set (L := L) (i := i) (by simpa using h)
    cases b <;> simp <;> omega

theorem dirs_ready {listed : Array Bool} {i : Nat} (h : i ∈ Region.ready .any l.toArray listed) : lst listed i = false ∧ i < listed.size ∧ ∃ o, l[i]? = some o ∧ ∀ d ∈ dirs o, lst listed d = true := by
  obtain ⟨h1, o, ho, h2⟩ := mem_ready.1 h
  have hlt : i < listed.size := by
    refine Classical.byContradiction fun hn => ?_
    rw [Array.getD_eq_getD_getElem?, Array.getElem?_eq_none (by omega)] at h1
    simp at h1
  refine ⟨?_, hlt, o, by simpa using ho, fun d hd => ?_⟩
  · unfold lst
    rw [Array.getD_eq_getD_getElem?, Array.getElem?_eq_getElem hlt] at h1 ⊢
    simpa using h1
  · obtain ⟨e, he, rfl⟩ := List.mem_map.1 hd
    obtain ⟨he1, he2⟩ := List.mem_filter.1 he
    exact h2 e (by simpa using he1) he2

theorem all_listed (hc : Chk l clk D HT HH M) {listed : Array Bool} (hsz : listed.size = l.length) (hr : Region.ready .any l.toArray listed = []) : ∀ j, j < l.length → lst listed j = true := by
  intro j
  induction j using Nat.strongRecOn with
  | ind j ih =>
    intro hj
    cases hl : lst listed j with
    | true => rfl
    | false =>
      exfalso
      have hlt : j < listed.size := by omega
      have : j ∈ Region.ready .any l.toArray listed := by
        refine mem_ready.2 ⟨?_, l[j], by simp [hj], fun e he hb => ?_⟩
        · unfold lst at hl
          rw [Array.getD_eq_getD_getElem?, Array.getElem?_eq_getElem hlt] at hl ⊢
          simpa using hl
        · have h2 := hc.a j hj
          unfold chkA at h2
          rw [List.getElem?_eq_getElem hj] at h2
          simp only [Bool.and_eq_true, List.all_eq_true] at h2
          have hd : e.on ∈ dirs l[j] := List.mem_map.2 ⟨e, List.mem_filter.2 ⟨by simpa using he, hb⟩, rfl⟩
          have h3 : e.on < j := by simpa using h2.1 _ hd
          exact ih e.on h3 (by omega)
      rw [hr] at this
      cases this

theorem any_go (hc : Chk l clk D HT HH M) (hb : base clk T0 H0 = true) (hp : ∀ b ∈ Hp, LFB b ∨ idB (fun k => Nat.blt k clk) b = true) {R : List (Nat × Ef)} (hR : Good P l n T0 H0 Hp clk (clk + l.length) D HT HH M l.length R) (hQ : Q .normal (stR n T0 H0 Hp (clk + l.length) (fun _ => true) R)) (c : Ctx) :
    ∀ (fuel : Nat) (listed : Array Bool), listed.size = l.length → Down l (lst listed) → listed.toList.count false ≤ fuel → ∀ a w, Sat c (stR n T0 H0 Hp (clk + l.length) (lst listed) R) a w → wpAny P .any l.toArray (post c Q) fuel listed a w := by
  have fin : ∀ listed : Array Bool, (∀ j, j < l.length → lst listed j = true) → ∀ a w, Sat c (stR n T0 H0 Hp (clk + l.length) (lst listed) R) a w → post c Q .normal a w := by
    intro listed hall a w hs
    refine ⟨_, hQ, ?_⟩
    have e1 : sel (lst listed) slL R T0 = sel (fun _ => true) slL R T0 := sel_congr fun k e he => hall k (hR.lt k e he)
    have e2 : sel (lst listed) Ef.bl R H0 = sel (fun _ => true) Ef.bl R H0 := sel_congr fun k e he => hall k (hR.lt k e he)
    unfold stR at hs ⊢
    rw [← e1, ← e2]
    exact hs
  intro fuel
  induction fuel with
  | zero =>
    intro listed hsz hd hcnt a w hs
    have hall : ∀ j, j < l.length → lst listed j = true := by
      intro j hj
      cases hl : lst listed j with
      | true => rfl
      | false =>
        exfalso
        have hlt : j < listed.size := by omega
        have : false ∈ listed.toList := by
          unfold lst at hl
          rw [Array.getD_eq_getD_getElem?, Array.getElem?_eq_getElem hlt] at hl
          simp at hl
          rw [← hl]
          simp
        have := List.count_pos_iff.2 this
        omega
    refine ⟨?_, fin listed hall a w hs⟩
    refine List.eq_nil_iff_forall_not_mem.2 fun i hi => ?_
    obtain ⟨h1, h2, _⟩ := dirs_ready hi
    rw [hall i (by omega)] at h1
    cases h1
  | succ fuel ih =>
    intro listed hsz hd hcnt a w hs
    refine ⟨fun hr => fin listed (all_listed hc hsz hr) a w hs, fun i hi => ?_⟩
    obtain ⟨h1, h2, o, ho, h3⟩ := dirs_ready hi
    have hil : i < l.length := by omega
    obtain ⟨e, he⟩ := hR.has i hil
    obtain ⟨o', ho', hsp, _, _⟩ := hR.all i e he
    rw [ho] at ho'
    cases ho'
    have hle := pre_le (HT := HT) (HH := HH) hc hb (Nat.le_refl _) hR hd hil h1 (down_mD hc hd i o ho h3)
    have hfit := fit_st hc rfl hb hp (Nat.le_refl _) hR hd hil h1
    have hal := hsp _ hle hfit
    refine AOp.sound (AOp.some ho hal) hs _ (fun σ' a' w' hK hs' => ?_)
    have hset : ∀ k, k ≠ i → lst (listed.setIfInBounds i true) k = lst listed k := fun k hk => by
      unfold lst
      rw [Array.getD_eq_getD_getElem?, Array.getD_eq_getD_getElem?, Array.getElem?_setIfInBounds_ne (Ne.symm hk)]
    have hseti : lst (listed.setIfInBounds i true) i = true := by
      unfold lst
      rw [Array.getD_eq_getD_getElem?, Array.getElem?_setIfInBounds]
      simp [h2]
    refine ih _ (by simp [hsz]) (fun k ok hok hk d hdd => ?_) ?_ a' w' (push_imp hc (Nat.le_refl _) hR hd hil h1 hseti hset he c a' w' (hK c a' w' hs'))
    · by_cases hdi : d = i
      · rw [hdi]; exact hseti
      · rw [hset d hdi]
        by_cases hki : k = i
        · subst hki
          rw [ho] at hok
          cases hok
          exact h3 d hdd
        · rw [hset k hki] at hk
          exact hd k ok hok hk d hdd
    · have hf : listed.toList[i]? = some false := by
        unfold lst at h1
        rw [Array.getD_eq_getD_getElem?, Array.getElem?_eq_getElem h2] at h1
        simp at h1
        simp [h2, h1]
      have := count_set hf
      rw [Array.toList_setIfInBounds]
      omega

theorem AW.any {id : Nat} (hm : P.follows .mixedOrders = true) (D HT HH : List (List Nat)) (M : List (Nat × Nat)) (hc : chk l clk D HT HH M = true) (hb : base clk T0 H0 = true) (hp : ∀ b ∈ Hp, LFB b)
    (h : AR P l Q n T0 H0 Hp clk (clk + l.length) D HT HH M 0 l []) : AW P (.region id l.toArray true) Q ⟨n, T0, H0, Hp, clk⟩ := by
  have hc := chk_spec hc
  have hg0 : Good P l n T0 H0 Hp clk (clk + l.length) D HT HH M 0 [] := ⟨(fun k e he => by cases he), (fun k e he => by cases he), (fun k hk => by omega), List.nodup_nil, List.Pairwise.nil⟩
  obtain ⟨R, hR, hQ⟩ := AR.good hc.a h (by simp) (by simp) hg0
  rintro c a w ⟨ρ, O, hs⟩
  refine wp_region_any hm ?_
  have hempty : ∀ k, lst (Array.replicate l.length false) k = false := fun k => by
    unfold lst
    rw [Array.getD_eq_getD_getElem?, Array.getElem?_replicate]
    split <;> rfl
  have e1 : sel (lst (Array.replicate l.length false)) slL R T0 = T0 := by
    rw [sel_congr (S' := fun _ => false) (fun k e _ => hempty k)]
    clear hR hQ
    induction R with
    | nil => rfl
    | cons p R ih => obtain ⟨k, e⟩ := p; simpa [sel] using ih
  have e2 : sel (lst (Array.replicate l.length false)) Ef.bl R H0 = H0 := by
    rw [sel_congr (S' := fun _ => false) (fun k e _ => hempty k)]
    clear hR hQ e1
    induction R with
    | nil => rfl
    | cons p R ih => obtain ⟨k, e⟩ := p; simpa [sel] using ih
  have hs' : SatAt c ⟨n, T0, H0, Hp, clk + l.length⟩ a w ρ O := ⟨hs.defers, hs.n, hs.par, fun k hk => hs.fresh k (by simp only at hk ⊢; omega), hs.T, ⟨fun i b hb => hs.H.ok i b (by cases i <;> exact hb), fun i b g hb => hs.H.own i b g (by cases i <;> exact hb), fun i j bi bj g hi hj => hs.H.inj i j bi bj g (by cases i <;> exact hi) (by cases j <;> exact hj)⟩, hs.F⟩
  have := any_go hc hb (fun b hb => .inl (hp b hb)) hR hQ c l.length (Array.replicate l.length false) (by simp) (fun k o ho hk => by rw [hempty] at hk; cases hk) (by simp) a { w with drawn := w.drawn + 1 } (by
    unfold stR
    rw [e1, e2]
    exact ⟨ρ, O, sat_below hs' ⟨rfl, rfl, rfl, Nat.le_refl _, fun _ _ => rfl⟩⟩)
  simpa using this

/-! ### told in full -/
def filA {α β : Type} (h : List Nat) : List (Nat × α) → List (Nat × α) → (List (Nat × α) → Option β) → Option β
  | [], tl, K => K tl
  | p :: r, tl, K => bif hasN h p.1 then filA h r tl K else filA h r tl fun l => K (p :: l)
def selK {α β : Type} (S : Nat → Bool) (g : Ef → List (Nat × α)) (h : List Nat) : List (Nat × Ef) → List (Nat × α) → (List (Nat × α) → Option β) → Option β
  | [], acc, K => filA h acc [] K
  | (k, e) :: R, acc, K => bif S k then selK S g h R acc (fun tl => filA h (g e) tl K) else selK S g h R acc K
theorem filA_spec {α β : Type} {r : β} {h : List Nat} {tl : List (Nat × α)} : ∀ {l : List (Nat × α)} {K : List (Nat × α) → Option β}, filA h l tl K = some r → K (fil h l ++ tl) = some r
  | [], K, hK => hK
  | p :: l, K, hK => by
    simp only [filA] at hK
    simp only [fil, List.filter_cons]
    cases hb : hasN h p.1 with
    | true =>
      rw [hb] at hK
      have := filA_spec hK
      simpa [fil] using this
    | false =>
      rw [hb] at hK
      have := filA_spec hK
      simpa [fil] using this
theorem selK_spec {α β : Type} {r : β} {S : Nat → Bool} {g : Ef → List (Nat × α)} {h : List Nat} {acc : List (Nat × α)} : ∀ {R : List (Nat × Ef)} {K : List (Nat × α) → Option β}, selK S g h R acc K = some r → K (fil h (sel S g R acc)) = some r
  | [], K, hK => by simpa [sel] using filA_spec (tl := []) hK
  | (k, e) :: R, K, hK => by
    simp only [selK] at hK
    simp only [sel]
    cases hs : S k with
    | true =>
      rw [hs] at hK
      have := filA_spec (selK_spec hK)
      simpa [fil] using this
    | false =>
      rw [hs] at hK
      simpa using selK_spec hK
theorem fil_nil {α : Type} (l : List (Nat × α)) : fil [] l = l := by simp [fil, hasN]

variable {top j : Nat} {o : Oper} {rest : List Oper} {R : List (Nat × Ef)}
theorem AR.step {Tm : List (Nat × AV)} {Hm : List (Nat × Option Blk)} (hT : selK (mD D j) slL (HT.getD j []) R T0 some = some Tm) (hH : selK (mD D j) Ef.bl (HH.getD j []) R H0 some = some Hm) {e : Ef} (hs : OSp P l (clk + j) o ⟨n, Tm, Hm, Hp, top⟩ e)
    (hk : keyE clk M j o e = true) (ho : okE clk D j e = true) (h : AR P l Q n T0 H0 Hp clk top D HT HH M (j + 1) rest ((j, e) :: R)) : AR P l Q n T0 H0 Hp clk top D HT HH M j (o :: rest) R := by
  refine .cons (e := e) ?_ hk ho h
  have h1 := selK_spec hT
  have h2 := selK_spec hH
  cases h1; cases h2
  exact hs
theorem AR.done {Tf : List (Nat × AV)} {Hf : List (Nat × Option Blk)} (hT : selK (fun _ => true) slL [] R T0 some = some Tf) (hH : selK (fun _ => true) Ef.bl [] R H0 some = some Hf) (h : Q .normal ⟨n, Tf, Hf, Hp, top⟩) : AR P l Q n T0 H0 Hp clk top D HT HH M j [] R := by
  refine .nil ?_
  have h1 := selK_spec hT
  have h2 := selK_spec hH
  cases h1; cases h2
  unfold stR
  rw [fil_nil, fil_nil] at h
  exact h

/-! ### a guard that isn't known -/
def knR {β : Type} (t : Nat) (b' : Bool) : List (Nat × Ef) → (List (Nat × Ef) → Option β) → Option β
  | [], _ => none
  | (k, e) :: R, K => match e with
    | ⟨some (t', v), bl⟩ => bif Nat.beq t' t then K ((k, ⟨some (t, .d (.one (.bool b'))), bl⟩) :: R) else knR t b' R fun l => K ((k, ⟨some (t', v), bl⟩) :: l)
    | e => knR t b' R fun l => K ((k, e) :: l)
def lkR (t : Nat) : List (Nat × Ef) → Option AV
  | [] => none
  | (_, e) :: R => match e.sl with
    | some (t', v) => bif Nat.beq t' t then some v else lkR t R
    | none => lkR t R
theorem knR_spec {β : Type} {r : β} {t : Nat} {b : Bool} : ∀ {R : List (Nat × Ef)} {K : List (Nat × Ef) → Option β}, lkR t R = some (.d (.one (.bool b))) → knR t b R K = some r → K R = some r
  | [], K, h, hK => by simp [knR] at hK
  | (k, ⟨none, bl⟩) :: R, K, h, hK => knR_spec (K := fun l => K ((k, ⟨none, bl⟩) :: l)) (by simpa [lkR] using h) (by simpa [knR] using hK)
  | (k, ⟨some (t', v), bl⟩) :: R, K, h, hK => by
    simp only [lkR] at h
    simp only [knR] at hK
    cases hb : Nat.beq t' t with
    | true =>
      rw [hb] at h hK
      have := Nat.eq_of_beq_eq_true hb
      subst this
      simp at h
      subst h
      exact hK
    | false =>
      rw [hb] at h hK
      exact knR_spec (K := fun l => K ((k, ⟨some (t', v), bl⟩) :: l)) h hK
theorem AR.know {t : Nat} {b b' : Bool} {R' : List (Nat × Ef)} (hb : lkR t R = some (.d (.one (.bool b)))) (he : b = b') (hR : knR t b' R some = some R') (h : AR P l Q n T0 H0 Hp clk top D HT HH M j rest R') : AR P l Q n T0 H0 Hp clk top D HT HH M j rest R := by
  subst he
  have := knR_spec hb hR
  cases this
  exact h
theorem AR.guard {t : Nat} {b : Bool} {Rt Rf : List (Nat × Ef)} (_hg : gdst l o = some t) (hb : lkR t R = some (.d (.one (.bool b)))) (hRt : knR t true R some = some Rt) (hRf : knR t false R some = some Rf)
    (ht : b = true → AR P l Q n T0 H0 Hp clk top D HT HH M j (o :: rest) Rt) (hf : b = false → AR P l Q n T0 H0 Hp clk top D HT HH M j (o :: rest) Rf) : AR P l Q n T0 H0 Hp clk top D HT HH M j (o :: rest) R := by
  cases hbb : b with
  | true => exact AR.know hb hbb hRt (ht hbb)
  | false => exact AR.know hb hbb hRf (hf hbb)
end
end Go.AM

/- A machine over pure data: part 30: strings cut and joined; what a rune's bytes are. -/
set_option linter.unusedVariables false
namespace Go.AM
open Go Go.RowKit

section
variable {P : Program} {l rest : List Oper} {Q : Exit → St → Prop} {n d clk : Nat} {T : List (Nat × AV)} {H : List (Nat × Option Blk)} {Hp : List Blk} {x y lo hi : Operand} {t t2 ty : TypeId} {pos : String} {aft : Array Edge} {g : Option (Nat × Bool)}

/-- s[i:j] -/
theorem VOp.cutS {ts : List (Nat × TI)} (hT : TOK P ts) {o : Option Tmp} {σ : St} {s : ByteArray} (hx : ev σ x = some (st s)) {k1 k2 : IntKind} {i j : Nat} (hlo : ev σ lo = some (.d (.one (.int k1 (i : Int))))) (hhi : ev σ hi = some (.d (.one (.int k2 (j : Int)))))
    {s1 b1 : Nat} {z : List AV} (ht : lk ts t = some ⟨.str, s1, b1, z⟩) (h1 : i ≤ j) (h2 : j ≤ s.size) : VOp P σ ⟨o, .slice t x (some lo) (some hi) none, ty, pos, aft, g⟩ (st (s.extract i j)) := by
  refine VOp.mk fun c ac w ρ O hs => ?_
  have e1 := one_of (ev_sound hs hx)
  have e2 := one_of (ev_sound hs hlo)
  have e3 := one_of (ev_sound hs hhi)
  refine ⟨.string (s.extract i j), fun w' _ => ?_, .d _ _ (.one _ rfl)⟩
  have := run_slice_string (P := P) w' t s k1 k2 (i : Int) (j : Int) (und_str hT ht) (by omega) (by omega) (by omega)
  simp only [Int.toNat_natCast] at this
  simp only [execOp, e1, Instr.sliceAt, Sem.run_bind, run_underlying (und_str hT ht), Result.andThen_ok, Option.map_some, e2, e3, Option.map_none, this, Sem.run_pure]
/-- s[i:] -/
theorem VOp.cutSF {ts : List (Nat × TI)} (hT : TOK P ts) {o : Option Tmp} {σ : St} {s : ByteArray} (hx : ev σ x = some (st s)) {k1 : IntKind} {i : Nat} (hlo : ev σ lo = some (.d (.one (.int k1 (i : Int)))))
    {s1 b1 : Nat} {z : List AV} (ht : lk ts t = some ⟨.str, s1, b1, z⟩) (h1 : i ≤ s.size) : VOp P σ ⟨o, .slice t x (some lo) none none, ty, pos, aft, g⟩ (st (s.extract i s.size)) := by
  refine VOp.mk fun c ac w ρ O hs => ?_
  have e1 := one_of (ev_sound hs hx)
  have e2 := one_of (ev_sound hs hlo)
  refine ⟨.string (s.extract i s.size), fun w' _ => ?_, .d _ _ (.one _ rfl)⟩
  have := run_slice_string_l (P := P) w' t s (und_str hT ht) k1 (i : Int) (by omega) (by omega)
  simp only [Int.toNat_natCast] at this
  simp only [execOp, e1, Instr.sliceAt, Sem.run_bind, run_underlying (und_str hT ht), Result.andThen_ok, Option.map_some, e2, Option.map_none, this, Sem.run_pure]
/-- s[:j] -/
theorem VOp.cutST {ts : List (Nat × TI)} (hT : TOK P ts) {o : Option Tmp} {σ : St} {s : ByteArray} (hx : ev σ x = some (st s)) {k1 : IntKind} {j : Nat} (hhi : ev σ hi = some (.d (.one (.int k1 (j : Int)))))
    {s1 b1 : Nat} {z : List AV} (ht : lk ts t = some ⟨.str, s1, b1, z⟩) (h1 : j ≤ s.size) : VOp P σ ⟨o, .slice t x none (some hi) none, ty, pos, aft, g⟩ (st (s.extract 0 j)) := by
  refine VOp.mk fun c ac w ρ O hs => ?_
  have e1 := one_of (ev_sound hs hx)
  have e2 := one_of (ev_sound hs hhi)
  refine ⟨.string (s.extract 0 j), fun w' _ => ?_, .d _ _ (.one _ rfl)⟩
  have := run_slice_string_h (P := P) w' t s (und_str hT ht) k1 (j : Int) (by omega) (by omega)
  simp only [Int.toNat_natCast] at this
  simp only [execOp, e1, Instr.sliceAt, Sem.run_bind, run_underlying (und_str hT ht), Result.andThen_ok, Option.map_some, e2, Option.map_none, this, Sem.run_pure]
/-- An element's address, at a number that is told in whole numbers. -/
theorem VOp.idxMI {ts : List (Nat × TI)} (hT : TOK P ts) {o : Option Tmp} {σ : St} {α : Type} {f : α → List D} {xs : List α} (hx : ev σ x = some (.d (.row (xs.map f)))) {k : IntKind} {i : Int} (hy : ev σ y = some (.d (.one (.int k i))))
    {e s b : Nat} {z : List AV} (ht : lk ts t = some ⟨.slice e, s, b, z⟩) {ie : TI} (he : lk ts e = some ie) (hf : ∀ x, (f x).length = ie.size) (h0 : 0 ≤ i) (hi : i.toNat < xs.length) : VOp P σ ⟨o, .indexAddr t x y, ty, pos, aft, g⟩ (.eptr (f (xs[i.toNat]'hi))) := by
  have hy' : ev σ y = some (.d (.one (.int k ((i.toNat : Nat) : Int)))) := by rw [hy, Int.toNat_of_nonneg h0]
  exact VOp.idxM hT hx hy' ht he hf hi
theorem AL.idxMI {ts : List (Nat × TI)} (hT : TOK P ts) (hw : wantedA l ⟨some d, .indexAddr t x y, ty, pos, aft, g⟩ ⟨n, T, H, Hp, clk⟩ = some true) (hd : Nat.blt d n = true) {α : Type} {f : α → List D} {xs : List α} (hx : ev ⟨n, T, H, Hp, clk⟩ x = some (.d (.row (xs.map f))))
    {k : IntKind} {i : Int} (hy : ev ⟨n, T, H, Hp, clk⟩ y = some (.d (.one (.int k i)))) {e s b : Nat} {z : List AV} (ht : lk ts t = some ⟨.slice e, s, b, z⟩) {ie : TI} (he : lk ts e = some ie) (hf : ∀ x, (f x).length = ie.size) (h0 : 0 ≤ i) (hi : i.toNat < xs.length)
    (h : AL P l Q rest ⟨n, (d, .eptr (f (xs[i.toNat]'hi))) :: T, H, Hp, clk⟩) : AL P l Q (⟨some d, .indexAddr t x y, ty, pos, aft, g⟩ :: rest) ⟨n, T, H, Hp, clk⟩ :=
  AL.v hw hd (.idxMI hT hx hy ht he hf h0 hi) h
/-- s + t -/
theorem VOp.joinS {o : Option Tmp} {σ : St} {s s' : ByteArray} (hx : ev σ x = some (st s)) (hy : ev σ y = some (st s')) (hl : s.size + s'.size ≤ 9223372036854775807) : VOp P σ ⟨o, .binOp .add t x y t2, ty, pos, aft, g⟩ (st (s ++ s')) := by
  refine VOp.mk fun c ac w ρ O hs => ?_
  have e1 := one_of (ev_sound hs hx)
  have e2 := one_of (ev_sound hs hy)
  refine ⟨.string (s ++ s'), fun w' _ => ?_, .d _ _ (.one _ rfl)⟩
  have hg : (eqGuard .add t x y (.string s) (.string s')).run P w' = .ok () w' := rfl
  simp only [execOp, e1, e2]
  rw [Sem.run_bind, Sem.run_bind, hg]
  simp [binOp, Op.stringOp]
  omega
end

/-! ### runes and bytes -/
theorem byteAt_get {s : ByteArray} {p : Nat} (h : p < s.size) : byteAt s p = ((s.get! p).toNat : Int) := by
  have hl : p < s.data.toList.length := by rw [Array.length_toList]; exact h
  have e : s.get! p = s[p]'h := by
    simp [ByteArray.get!, getElem!_pos, h]
    rfl
  rw [e]
  simp only [byteAt, List.getD_eq_getElem?_getD, List.getElem?_eq_getElem hl, Option.getD_some]
  rfl
theorem dec_w {s : ByteArray} {p : Nat} (h : p < s.size) (ha : 128 ≤ byteAt s p) : 1 ≤ (Utf8.decode s p).2 ∧ p + (Utf8.decode s p).2 ≤ s.size ∧ (∀ k, k < (Utf8.decode s p).2 → 128 ≤ byteAt s (p + k)) ∧ 128 ≤ (Utf8.decode s p).1 := by
  rw [byteAt_get h] at ha
  have one : ∀ k, k < 1 → 128 ≤ byteAt s (p + k) := fun k hk => by
    have : k = 0 := by omega
    subst this
    rw [Nat.add_zero, byteAt_get h]
    exact ha
  have step : ∀ m, (∀ k, k < m → 128 ≤ byteAt s (p + k)) → p + m < s.size → (s.get! (p + m)).toNat / 64 = 2 → ∀ k, k < m + 1 → 128 ≤ byteAt s (p + k) := fun m hm hlt h2 k hk => by
    by_cases hkm : k < m
    · exact hm k hkm
    · have : k = m := by omega
      subst this
      rw [byteAt_get hlt]
      omega
  have h128 : ¬ (s.get! p).toNat < 128 := by omega
  simp only [Utf8.decode, Nat.add_zero, if_neg h128]
  split
  · rename_i hc
    simp only [Bool.and_eq_true, beq_iff_eq, decide_eq_true_eq] at hc
    split
    · rename_i hc2
      exact ⟨by omega, by omega, step 1 one hc.2.1 hc.2.2, by omega⟩
    · exact ⟨by omega, by omega, one, by simp [Utf8.runeError]⟩
  · split
    · rename_i hc
      simp only [Bool.and_eq_true, beq_iff_eq, decide_eq_true_eq] at hc
      split
      · rename_i hc2
        simp only [Bool.and_eq_true, decide_eq_true_eq] at hc2
        exact ⟨by omega, by omega, step 2 (step 1 one hc.1.2.1 hc.1.2.2) hc.2.1 hc.2.2, by omega⟩
      · exact ⟨by omega, by omega, one, by simp [Utf8.runeError]⟩
    · split
      · rename_i hc
        simp only [Bool.and_eq_true, beq_iff_eq, decide_eq_true_eq] at hc
        split
        · rename_i hc2
          simp only [Bool.and_eq_true, decide_eq_true_eq] at hc2
          exact ⟨by omega, by omega, step 3 (step 2 (step 1 one hc.1.1.2.1 hc.1.1.2.2) hc.1.2.1 hc.1.2.2) hc.2.1 hc.2.2, by omega⟩
        · exact ⟨by omega, by omega, one, by simp [Utf8.runeError]⟩
      · exact ⟨by omega, by omega, one, by simp [Utf8.runeError]⟩
end Go.AM

/- A machine over pure data: part 31: cuts of a row of the call's own; copy into them. -/
set_option linter.unusedVariables false
set_option linter.unusedSimpArgs false
namespace Go.AM
open Go Go.RowKit

section
variable {P : Program} {l rest : List Oper} {Q : Exit → St → Prop} {n d clk : Nat} {T : List (Nat × AV)} {H : List (Nat × Option Blk)} {Hp : List Blk} {x y : Operand} {t t2 ty : TypeId} {tys : Array TypeId} {pos : String} {aft : Array Edge} {g : Option (Nat × Bool)}

/-- Where a slice of an own row lies: the row, from where, how long. -/
def seg (σ : St) : AV → Option (Id × Nat × Nat × Nat)
  | .own i => match hk σ i with
    | some (.row _ sz xs) => some (i, sz, 0, xs.length)
    | _ => none
  | .sub i sz lo n true => some (i, sz, lo, n)
  | _ => none

/-- An own row's slice, as a value. -/
theorem seg_val {c : Ctx} {σ : St} {a : Act} {w : World} {ρ : Env} {O : Nat → Prop} (hs : SatAt c σ a w ρ O) {vx : AV} {i : Id} {sz lo m e : Nat} (hsg : seg σ vx = some (i, sz, lo, m)) {xs : List (List D)} (hid : hk σ i = some (.row e sz xs)) {v : Value} (hv : VR ρ O w vx v) :
    lo + m ≤ xs.length ∧ ((v = .slice none 0 0 ∧ xs = [] ∧ m = 0 ∧ lo = 0 ∧ ρ i = some (.slice none 0 0)) ∨
      ∃ gb cap cc off cur, v = .slice (some ⟨gb, off, none⟩) m cc ∧ ρ i = some (.slice (some ⟨gb, 0, none⟩) xs.length cap) ∧ lo + cc = cap ∧ xs.length ≤ cap ∧ (cc ≠ 0 → off = lo * sz) ∧ w.heap[gb]? = some (.cells cur e (0, 0)) ∧ cur.size = cap * sz) := by
  obtain ⟨v0, vs, h1, h2, h3, h4⟩ := hs.H.ok i _ hid
  have hrow : ∀ L C gb, ρ i = some (.slice (some ⟨gb, 0, none⟩) L C) → L = xs.length ∧ xs.length ≤ C ∧ ∃ cur, w.heap[gb]? = some (.cells cur e (0, 0)) ∧ cur.size = C * sz := by
    intro L C gb hρ
    rw [h1] at hρ
    injection hρ with hρ
    rcases h2.2 with ⟨h5, _⟩ | ⟨g', cap, cur, h5, _, hh, hnc, _, hcs, _⟩
    · rw [hρ] at h5; cases h5
    · rw [hρ] at h5
      injection h5 with h5 h6 h7
      injection h5 with h5
      injection h5 with h5
      subst h5; subst h6; subst h7
      exact ⟨rfl, hnc, cur, hh, hcs⟩
  cases vx with
  | own id =>
    simp only [seg] at hsg
    split at hsg
    · rename_i e' sz' xs' hb
      cases hsg
      rw [hid] at hb
      cases hb
      cases hv with
      | own _ _ h5 h6 =>
        rw [h1] at h5
        injection h5 with h5
        subst h5
        rcases h2.2 with ⟨rfl, h7⟩ | ⟨g', cap, cur, rfl, _, hh, hnc, _, hcs, _⟩
        · have : xs = [] := List.eq_nil_of_length_eq_zero h7
          subst this
          exact ⟨by simp, .inl ⟨rfl, rfl, rfl, rfl, h1⟩⟩
        · exact ⟨by omega, .inr ⟨g', cap, cap, 0, cur, rfl, h1, by omega, hnc, fun _ => by simp, hh, hcs⟩⟩
    · cases hsg
  | sub id sz' lo' n' full =>
    cases full with
    | false => simp [seg] at hsg
    | true =>
      simp only [seg] at hsg
      cases hsg
      cases hv with
      | sub _ _ _ _ _ g' L C cc off h5 h6 h7 h8 h9 h10 =>
        obtain ⟨rfl, e2, cur, e3, e4⟩ := hrow _ _ _ h5
        exact ⟨h6, .inr ⟨g', C, cc, off, cur, rfl, h5, h9.1 rfl, e2, h10, e3, e4⟩⟩
      | subN _ _ _ h5 =>
        rw [h1] at h5
        injection h5 with h5
        subst h5
        rcases h2.2 with ⟨_, h7⟩ | ⟨g', cap, cur, h7, _⟩
        · have : xs = [] := List.eq_nil_of_length_eq_zero h7
          subst this
          exact ⟨by simp, .inl ⟨rfl, rfl, rfl, rfl, h1⟩⟩
        · cases h7
  | _ => simp [seg] at hsg

theorem VOp.cutO {ts : List (Nat × TI)} (hT : TOK P ts) {lo hi : Option Operand} {o : Option Tmp} {σ : St} {vx : AV} (hx : ev σ x = some vx) {id : Id} {sz b m : Nat} (hsg : seg σ vx = some (id, sz, b, m)) {e : Nat} {xs : List (List D)} (hid : hk σ id = some (.row e sz xs))
    {e' s b' : Nat} {z : List AV} (ht : lk ts t = some ⟨.slice e', s, b', z⟩) {ie : TI} (he : lk ts e' = some ie) (hsz : Nat.beq ie.size sz = true) {i j : Nat} (hlo : bnd σ lo 0 = some (i : Int)) (hhi : bnd σ hi (m : Nat) = some (j : Int)) (h1 : i ≤ j) (h2 : b + j ≤ xs.length) :
    VOp P σ ⟨o, .slice t x lo hi none, ty, pos, aft, g⟩ (.sub id sz (b + i) (j - i) true) := by
  refine VOp.mk fun c ac w ρ O hs => ?_
  have hsz := Nat.eq_of_beq_eq_true hsz
  have e1 := ev_sound hs hx
  have hsize := (hT.facts he).sizeOf (P := P)
  obtain ⟨hbm, hval⟩ := seg_val hs hsg hid e1
  have run : ∀ (A : Option Addr) (len cc : Nat), len = m → j ≤ cc → len ≤ cc → ∀ w, (Instr.sliceBounds true len cc (lo.map ac.eval) (hi.map ac.eval) none).run P w = .ok (i, j, cc) w := by
    intro A len cc hlen hjc hlc w
    subst hlen
    rcases bnd_sound hs hlo with ⟨rfl, h0⟩ | ⟨k1, hk1⟩ <;> rcases bnd_sound hs hhi with ⟨rfl, h3⟩ | ⟨k2, hk2⟩
    · have : i = 0 := by omega
      have : j = len := by omega
      simp [Instr.sliceBounds, *]
    · have a0 : i = 0 := by omega
      have : (0 : Int) ≤ j ∧ (j : Int) ≤ (cc : Int) := ⟨by omega, by omega⟩
      simp [Instr.sliceBounds, hk2, Instr.sliceBound, asIntOf, hjc, a0]
    · have a0 : j = len := by omega
      have : (0 : Int) ≤ i ∧ (i : Int) ≤ (len : Int) := ⟨by omega, by omega⟩
      have hil : i ≤ len := by omega
      simp [Instr.sliceBounds, hk1, Instr.sliceBound, asIntOf, hil, a0]
    · have a1 : (0 : Int) ≤ j ∧ (j : Int) ≤ (cc : Int) := ⟨by omega, by omega⟩
      have a2 : (0 : Int) ≤ i ∧ (i : Int) ≤ ((Int.toNat (j : Int) : Nat) : Int) := ⟨by omega, by omega⟩
      simp only [Instr.sliceBounds, hk1, hk2, Instr.sliceBound, asIntOf, a1, a2, Option.map_none, Sem.run_bind, Sem.run_pure, Result.andThen_ok, and_self, if_true, Sem.run_ite]
      rfl
  rcases hval with ⟨hv, rfl, rfl, rfl, hρ⟩ | ⟨gb, cap, cc, off, cur, hv, hρ, hcap, hlc, hoff, hh, hcs⟩
  · have hi0 : i = 0 := by simp at h2; omega
    have hj0 : j = 0 := by simp at h2; omega
    subst hi0; subst hj0
    refine ⟨.slice none 0 0, fun w' _ => ?_, .subN _ _ _ hρ⟩
    simp only [execOp, hv, Instr.sliceAt, Sem.run_bind, run_underlying (und_slice hT ht), Result.andThen_ok, Instr.slice, Option.map_none, run none 0 0 rfl (by omega) (by omega), hsize, Sem.run_pure]
    rfl
  · refine ⟨.slice (some ⟨gb, if cc = i then off else off + i * sz, none⟩) (j - i) (cc - i), fun w' _ => ?_, ?_⟩
    · have hq : Value.slice (some ⟨gb, if cc = i then off else off + i * sz, none⟩) (j - i) (cc - i) = .slice (if cc = i then some ⟨gb, off, none⟩ else (some (⟨gb, off, none⟩ : Addr)).map (·.add (i * ie.size))) (j - i) (cc - i) := by
        by_cases hci : cc = i
        · simp [hci]
        · simp [hci, add_ptr, hsz]
      rw [hq]
      simp only [execOp, hv, Instr.sliceAt, Sem.run_bind, run_underlying (und_slice hT ht), Result.andThen_ok, Instr.slice, Option.map_none, run none m cc rfl (by omega) (by omega), hsize, Sem.run_pure]
    · refine .sub _ _ _ _ _ gb xs.length cap (cc - i) _ hρ (by omega) (by omega) (by omega) ⟨fun _ => by omega, fun h => by cases h⟩ (fun hne => ?_)
      have h5 : cc ≠ i := by omega
      rw [if_neg h5, hoff (by omega), Nat.add_mul]
end
end Go.AM

/- A machine over pure data: part 32: copy into a row of the call's own; a row cut short. -/
set_option linter.unusedVariables false
set_option linter.unusedSimpArgs false
namespace Go.AM
open Go Go.RowKit

section
variable {P : Program} {l rest : List Oper} {Q : Exit → St → Prop} {n d clk : Nat} {T : List (Nat × AV)} {H : List (Nat × Option Blk)} {Hp : List Blk} {x y : Operand} {t t2 ty : TypeId} {tys : Array TypeId} {pos : String} {aft : Array Edge} {g : Option (Nat × Bool)}

/-- Some of a row's elements are written. -/
theorem seg_write {c : Ctx} {a : Act} {w : World} {ρ : Env} {O : Nat → Prop} (hs : SatAt c ⟨n, T, H, Hp, clk⟩ a w ρ O) {id e sz lo gb cap : Nat} {xs ys : List (List D)} {vs : List Value} {cur cur' : Array Value} (hid : hk ⟨n, T, H, Hp, clk⟩ (.loc id) = some (.row e sz xs))
    (hρ : ρ (.loc id) = some (.slice (some ⟨gb, 0, none⟩) xs.length cap)) (hh : w.heap[gb]? = some (.cells cur e (0, 0))) (hcs : cur.size = cap * sz) (hnc : xs.length ≤ cap)
    (hvl : vs.length = ys.length * sz) (hyl : ∀ y ∈ ys, y.length = sz) (hrd : ∀ (j k : Nat) y d, ys[j]? = some y → y[k]? = some d → ∃ u, vs[j * sz + k]? = some u ∧ Reads O w d u) (hfit : lo + ys.length ≤ xs.length)
    (e2 : cur'.size = cur.size) (e3 : ∀ m : Nat, cur'[m]? = if lo * sz ≤ m ∧ m < lo * sz + vs.length then vs[m - lo * sz]? else cur[m]?) :
    SatAt c ⟨n, T, (id, some (.row e sz (xs.take lo ++ ys ++ xs.drop (lo + ys.length)))) :: H, Hp, clk⟩ a (w.setRow gb cur') ρ O := by
  obtain ⟨v0, vs0, k1, k2, k3, k4⟩ := hs.H.ok (.loc id) _ hid
  rw [hρ] at k1
  injection k1 with k1
  subst k1
  rcases k2.2 with ⟨h5, _⟩ | ⟨gb', cap', cur0, h5, hbase, hh0, _, hcm, _, htk⟩
  · cases h5
  injection h5 with h5 _ h6
  injection h5 with h5
  injection h5 with h5
  subst h5; subst h6
  rw [hh] at hh0
  injection hh0 with hh0
  injection hh0 with hh0
  subst hh0
  have hO : O gb := (hs.H.own (.loc id) _ gb hid (by rw [hρ]; rfl)).1
  have hk0 : Keeps O w O (w.setRow gb cur') := ⟨by simp, fun k _ hO' => setRow_other w gb k cur' (fun e => hO' (e ▸ hO)), fun k hk => .inl hk⟩
  have hlen' : (xs.take lo ++ ys ++ xs.drop (lo + ys.length)).length = xs.length := by simp; omega
  have hsegle : ∀ a b : Nat, a ≤ b → a * sz ≤ b * sz := fun a b h => Nat.mul_le_mul_right _ h
  have hold : ∀ (j k : Nat) x d, xs[j]? = some x → x[k]? = some d → ∃ u, cur[j * sz + k]? = some u ∧ Reads O w d u := fun j k x d hx hd => by
    obtain ⟨u, u1, u2⟩ := k4 j k x d hx hd
    refine ⟨u, ?_, u2⟩
    rw [← htk, List.getElem?_take] at u1
    split at u1
    · simpa using u1
    · cases u1
  have hlt : ∀ (j k : Nat) x d, xs[j]? = some x → x[k]? = some d → k < sz := fun j k x d hx hd => by
    have := (List.getElem?_eq_some_iff.1 hd).1
    rw [k3 x (List.mem_of_getElem? hx)] at this
    exact this
  have hget : ∀ (j' k : Nat) x d, (xs.take lo ++ ys ++ xs.drop (lo + ys.length))[j']? = some x → x[k]? = some d → ∃ u, cur'[j' * sz + k]? = some u ∧ Reads O (w.setRow gb cur') d u := by
    intro j' k x d hx' hd'
    by_cases hin : lo ≤ j' ∧ j' < lo + ys.length
    · have h1 : ys[j' - lo]? = some x := by
        rw [List.append_assoc, List.getElem?_append_right (by simp; omega), List.getElem?_append_left (by simp; omega)] at hx'
        rw [← hx']; congr 1; simp; omega
      have hk : k < sz := by
        have := (List.getElem?_eq_some_iff.1 hd').1
        rw [hyl x (List.mem_of_getElem? h1)] at this
        exact this
      obtain ⟨u, u1, u2⟩ := hrd (j' - lo) k x d h1 hd'
      refine ⟨u, ?_, u2.keep hk0⟩
      have g1 := hsegle lo j' hin.1
      have g2 : (j' - lo) * sz = j' * sz - lo * sz := Nat.sub_mul ..
      have g3 := hsegle (j' - lo + 1) ys.length (by omega)
      rw [Nat.succ_mul] at g3
      rw [e3, if_pos (by omega), show j' * sz + k - lo * sz = (j' - lo) * sz + k by omega]
      exact u1
    · have h1 : xs[j']? = some x := by
        by_cases hlt' : j' < lo
        · rw [List.append_assoc, List.getElem?_append_left (by simp; omega), List.getElem?_take, if_pos hlt'] at hx'
          exact hx'
        · rw [List.getElem?_append_right (by simp; omega), List.getElem?_drop] at hx'
          rw [← hx']; congr 1; simp; omega
      obtain ⟨u, u1, u2⟩ := hold j' k x d h1 hd'
      have hk := hlt j' k x d h1 hd'
      refine ⟨u, ?_, u2.keep hk0⟩
      rw [e3, if_neg (by
        intro hc
        rcases Nat.lt_or_ge j' lo with hl | hg
        · have := hsegle (j' + 1) lo hl
          rw [Nat.succ_mul] at this
          omega
        · have := hsegle (lo + ys.length) j' (by omega)
          rw [Nat.add_mul] at this
          omega)]
      exact u1
  have hxlen : ∀ x ∈ xs.take lo ++ ys ++ xs.drop (lo + ys.length), x.length = sz := fun x hx => by
    rcases List.mem_append.1 hx with hx | hx
    · rcases List.mem_append.1 hx with hx | hx
      · exact k3 x (List.mem_of_mem_take hx)
      · exact hyl x hx
    · exact k3 x (List.mem_of_mem_drop hx)
  exact chg_sat (σ' := ⟨n, T, (id, some (.row e sz (xs.take lo ++ ys ++ xs.drop (lo + ys.length)))) :: H, Hp, clk⟩) (b := .row e sz (xs.take lo ++ ys ++ xs.drop (lo + ys.length))) hs hid rfl (g := gb) (w' := w.setRow gb cur') (by rw [hρ]; rfl) (fun k hk => setRow_other w gb k cur' hk) (by simp) rfl rfl rfl
    ⟨_, cur'.toList.take (xs.length * sz), hρ, ⟨by rw [hlen', List.length_take, show cur'.toList.length = cap * sz by rw [Array.length_toList, e2, hcs]]; exact Nat.min_eq_left (hsegle _ _ hnc), .inr ⟨gb, cap, cur', by rw [hlen'], hbase, setRow_heap w gb cur cur' e (0, 0) hh, by rw [hlen']; exact hnc, hcm, by rw [e2, hcs], by rw [hlen']⟩⟩, hxlen, fun j' k x d hx' hd' => by
      obtain ⟨u, u1, u2⟩ := hget j' k x d hx' hd'
      refine ⟨u, ?_, u2⟩
      have hj' : j' < xs.length := by
        have := (List.getElem?_eq_some_iff.1 hx').1
        rw [hlen'] at this
        exact this
      have hkl : k < sz := by
        have := (List.getElem?_eq_some_iff.1 hd').1
        rw [hxlen x (List.mem_of_getElem? hx')] at this
        exact this
      have := hsegle (j' + 1) xs.length hj'
      rw [Nat.succ_mul] at this
      rw [List.getElem?_take, if_pos (by omega)]
      simpa using u1⟩

/-- The elements that an argument of copy tells. -/
def srcOf (σ : St) : AV → Option (List (List D))
  | .sub i sz lo n full => match hk σ i with
    | some (.row _ sz' xs) => bif Nat.beq sz sz' then some ((xs.take (lo + n)).drop lo) else none
    | _ => none
  | x => rowOf σ x

theorem own_src {c : Ctx} {σ : St} {a : Act} {w : World} {ρ : Env} {O : Nat → Prop} (hs : SatAt c σ a w ρ O) {i : Id} {e sz gb L C : Nat} {xs : List (List D)} (hid : hk σ i = some (.row e sz xs)) (hρ : ρ i = some (.slice (some ⟨gb, 0, none⟩) L C)) {lo n : Nat} (hn : lo + n ≤ xs.length) (hs0 : 0 < sz) :
    L = xs.length ∧ ∃ news : List Value, news.length = n * sz ∧ (∀ (k : Nat) u, news[k]? = some u → w.cell? ⟨gb, lo * sz + k, none⟩ = some u) ∧ (∀ u ∈ news, u.oneCell' = true) ∧
      ∀ (j k : Nat) y d, ((xs.take (lo + n)).drop lo)[j]? = some y → y[k]? = some d → ∃ u, news[j * sz + k]? = some u ∧ Reads O w d u := by
  obtain ⟨v0, vs0, k1, k2, k3, k4⟩ := hs.H.ok i _ hid
  rw [hρ] at k1
  injection k1 with k1
  subst k1
  rcases k2.2 with ⟨h5, _⟩ | ⟨gb', cap', cur, h5, _, hh, hnc, _, hcs, htk⟩
  · cases h5
  injection h5 with h5 h7 h6
  injection h5 with h5
  injection h5 with h5
  subst h5; subst h6
  refine ⟨h7, (cur.toList.drop (lo * sz)).take (n * sz), ?_, fun k u hu => ?_, ?_⟩
  · have h1 : (lo + n) * sz ≤ xs.length * sz := Nat.mul_le_mul_right _ hn
    have h2 : xs.length * sz ≤ C * sz := Nat.mul_le_mul_right _ hnc
    rw [Nat.add_mul] at h1
    simp only [List.length_take, List.length_drop, Array.length_toList, hcs]
    omega
  · rw [List.getElem?_take] at hu
    split at hu
    · rw [List.getElem?_drop, Array.getElem?_toList] at hu
      rw [cell_of_row w gb _ cur e (0, 0) hh]
      exact hu
    · cases hu
  · have hel : ∀ (j k : Nat) y d, ((xs.take (lo + n)).drop lo)[j]? = some y → y[k]? = some d → ∃ u, ((cur.toList.drop (lo * sz)).take (n * sz))[j * sz + k]? = some u ∧ Reads O w d u := by
      intro j k y d hy hd
      rw [List.getElem?_drop, List.getElem?_take] at hy
      split at hy
      · rename_i hj
        obtain ⟨u, u1, u2⟩ := k4 (lo + j) k y d hy hd
        have hk : k < sz := by
          have := (List.getElem?_eq_some_iff.1 hd).1
          rw [k3 y (List.mem_of_getElem? hy)] at this
          exact this
        refine ⟨u, ?_, u2⟩
        have h1 : (j + 1) * sz ≤ n * sz := Nat.mul_le_mul_right _ (by omega)
        rw [Nat.succ_mul] at h1
        rw [List.getElem?_take, if_pos (by omega), List.getElem?_drop, show lo * sz + (j * sz + k) = (lo + j) * sz + k by rw [Nat.add_mul]; omega]
        rw [← htk, List.getElem?_take] at u1
        split at u1
        · exact u1
        · cases u1
      · cases hy
    refine ⟨fun u hu => ?_, hel⟩
    obtain ⟨q, hq⟩ := List.getElem?_of_mem hu
    have hql : q < n * sz := by
      have := (List.getElem?_eq_some_iff.1 hq).1
      simp at this
      omega
    have hj : q / sz < n := (Nat.div_lt_iff_lt_mul hs0).2 hql
    have hyl : q / sz < ((xs.take (lo + n)).drop lo).length := by simp; omega
    have hmem : ((xs.take (lo + n)).drop lo)[q / sz] ∈ xs := List.mem_of_mem_take (List.mem_of_mem_drop (List.getElem_mem hyl))
    have hkl : q % sz < (((xs.take (lo + n)).drop lo)[q / sz]).length := by rw [k3 _ hmem]; exact Nat.mod_lt _ hs0
    obtain ⟨u', u1, u2⟩ := hel (q / sz) (q % sz) _ _ (List.getElem?_eq_getElem hyl) (List.getElem?_eq_getElem hkl)
    rw [show q / sz * sz + q % sz = q by rw [Nat.mul_comm]; exact Nat.div_add_mod q sz, hq] at u1
    injection u1 with u1
    subst u1
    exact u2.oneCell

theorem src_cells {c : Ctx} {σ : St} {a : Act} {w : World} {ρ : Env} {O : Nat → Prop} (hs : SatAt c σ a w ρ O) {vy : AV} {ys : List (List D)} (hy : srcOf σ vy = some ys) {v : Value} (hv : VR ρ O w vy v) {sz : Nat} (hsz : ∀ y ∈ ys, y.length = sz) (hs0 : 0 < sz) :
    ∃ (A : Option Addr) (cc : Nat) (news : List Value), v = .slice A ys.length cc ∧ news.length = ys.length * sz ∧ (∀ ad, A = some ad → ∀ (k : Nat) u, news[k]? = some u → w.cell? (ad.add k) = some u) ∧ (A = none → ys = []) ∧ (∀ u ∈ news, u.oneCell' = true) ∧
      ∀ (j k : Nat) y d, ys[j]? = some y → y[k]? = some d → ∃ u, news[j * sz + k]? = some u ∧ Reads O w d u := by
  have nil : ∀ (A : Option Addr) (cc : Nat), v = .slice A 0 cc → ys = [] → ∃ (A : Option Addr) (cc : Nat) (news : List Value), v = .slice A ys.length cc ∧ news.length = ys.length * sz ∧ (∀ ad, A = some ad → ∀ (k : Nat) u, news[k]? = some u → w.cell? (ad.add k) = some u) ∧ (A = none → ys = []) ∧ (∀ u ∈ news, u.oneCell' = true) ∧
      ∀ (j k : Nat) y d, ys[j]? = some y → y[k]? = some d → ∃ u, news[j * sz + k]? = some u ∧ Reads O w d u := fun A cc h1 h2 => by
    subst h2
    exact ⟨A, cc, [], h1, by simp, fun ad _ k u h => by simp at h, fun _ => rfl, fun u h => by simp at h, fun j k y d h => by simp at h⟩
  cases vy with
  | d yd =>
    cases yd with
    | one => simp [srcOf, rowOf] at hy
    | row ys' =>
      simp only [srcOf, rowOf] at hy
      cases hy
      cases hv with
      | d _ _ hR =>
        have hk : Keeps O w (fun _ => False) w := ⟨Nat.le_refl _, fun _ _ _ => rfl, fun k hk => hk.elim⟩
        obtain ⟨A, cc, news, e1, e2, e3, e4, e5, e6, e7⟩ := reads_cells (hR.keep hk) hsz hs0
        refine ⟨A, cc, news, e1, e2, e3, e4, e5, fun j k y d hy hd => ?_⟩
        obtain ⟨u, u1, _⟩ := e6 j k y d hy hd
        exact ⟨u, u1, e7 O hR j k y d u hy hd u1⟩
  | nilrow =>
    simp only [srcOf, rowOf] at hy
    cases hy
    cases hv
    exact nil none 0 rfl rfl
  | own i =>
    simp only [srcOf, rowOf] at hy
    split at hy
    · rename_i e sz' xs hb
      cases hy
      cases hv with
      | own _ _ h1 h2 =>
        obtain ⟨v0, vs0, k1, k2, k3, _⟩ := hs.H.ok i _ hb
        rw [h1] at k1
        injection k1 with k1
        subst k1
        rcases k2.2 with ⟨rfl, h6⟩ | ⟨gb, cap, cur, rfl, _⟩
        · exact nil none 0 rfl (List.eq_nil_of_length_eq_zero h6)
        · by_cases hx0 : ys = []
          · subst hx0
            exact nil _ cap rfl rfl
          · have hsz' : sz' = sz := by
              cases ys with
              | nil => exact absurd rfl hx0
              | cons y r => rw [← k3 y (by simp), hsz y (by simp)]
            subst hsz'
            obtain ⟨_, news, e1, e2, e3, e4⟩ := own_src hs hb h1 (lo := 0) (n := ys.length) (by omega) hs0
            refine ⟨_, cap, news, rfl, e1, fun ad had k u hu => ?_, (fun h => by cases h), e3, fun j k y d hy hd => e4 j k y d (by simpa using hy) hd⟩
            cases had
            have := e2 k u hu
            rw [add_ptr]
            simpa using this
    · cases hy
  | sub i sz' lo m full =>
    simp only [srcOf] at hy
    split at hy
    · rename_i e sz2 xs hb
      cases hz : Nat.beq sz' sz2 with
      | false => rw [hz] at hy; cases hy
      | true =>
        rw [hz] at hy
        have := Nat.eq_of_beq_eq_true hz
        subst this
        simp only [cond_true, Option.some.injEq] at hy
        obtain ⟨v0, vs0, k1, k2, k3, _⟩ := hs.H.ok i _ hb
        cases hv with
        | sub _ _ _ _ _ gb L C cc off h1 h2 h3 h4 h5 h6 =>
          by_cases hm : m = 0
          · subst hm
            exact nil _ cc rfl (by rw [← hy]; exact List.eq_nil_of_length_eq_zero (by simp))
          · have hL : L = xs.length := by
              rw [h1] at k1
              injection k1 with k1
              rcases k2.2 with ⟨h7, _⟩ | ⟨gb', cap', cur, h7, _⟩
              · rw [← k1] at h7; cases h7
              · rw [← k1] at h7
                injection h7 with _ h7 _
            have hlen : ys.length = m := by rw [← hy]; simp; omega
            have hszz : sz' = sz := by
              have h0 : 0 < ys.length := by omega
              have hsub : ∀ y, y ∈ ys → y ∈ xs := fun y hy' => by
                rw [← hy] at hy'
                exact List.mem_of_mem_take (List.mem_of_mem_drop hy')
              have hmem : ys[0] ∈ xs := hsub _ (List.getElem_mem h0)
              rw [← k3 _ hmem, hsz _ (List.getElem_mem h0)]
            subst hszz
            obtain ⟨_, news, e1, e2, e3, e4⟩ := own_src hs hb h1 (lo := lo) (n := m) (by omega) hs0
            refine ⟨_, cc, news, by rw [hlen], by rw [hlen]; exact e1, fun ad had k u hu => ?_, (fun h => by cases h), e3, fun j k y d hy' hd => e4 j k y d (by rw [hy]; exact hy') hd⟩
            cases had
            have := e2 k u hu
            rw [add_ptr, h6 (by omega)]
            exact this
        | subN _ _ _ h1 =>
          exact nil none 0 rfl (by rw [← hy]; exact List.eq_nil_of_length_eq_zero (by simp))
    · cases hy
  | _ => simp [srcOf, rowOf] at hy

/-- copy(x, y), x a row of the call's own, or a part of one. -/
theorem AL.copy {ts : List (Nat × TI)} (hT : TOK P ts) (hw : wantedA l ⟨some d, .call ⟨.builtin .copy, #[x, y], #[t, t2]⟩, ty, pos, aft, g⟩ ⟨n, T, H, Hp, clk⟩ = some true) (hd : Nat.blt d n = true) {vx vy : AV} (hx : ev ⟨n, T, H, Hp, clk⟩ x = some vx) {id sz lo m e : Nat} (hsg : seg ⟨n, T, H, Hp, clk⟩ vx = some (.loc id, sz, lo, m))
    {xs ys : List (List D)} (hid : hk ⟨n, T, H, Hp, clk⟩ (.loc id) = some (.row e sz xs)) (hy : ev ⟨n, T, H, Hp, clk⟩ y = some vy) (hys : srcOf ⟨n, T, H, Hp, clk⟩ vy = some ys) (hel : ∀ y ∈ ys, y.length = sz) (hs0 : Nat.blt 0 sz = true)
    {e' s b : Nat} {z : List AV} (ht : lk ts t = some ⟨.slice e', s, b, z⟩) {ie : TI} (he : lk ts e' = some ie) (hsz : Nat.beq ie.size sz = true)
    (h : AL P l Q rest ⟨n, (d, i64 (Min.min ys.length m : Nat)) :: T, (id, some (.row e sz (xs.take lo ++ ys.take m ++ xs.drop (lo + Min.min ys.length m)))) :: H, Hp, clk⟩) :
    AL P l Q (⟨some d, .call ⟨.builtin .copy, #[x, y], #[t, t2]⟩, ty, pos, aft, g⟩ :: rest) ⟨n, T, H, Hp, clk⟩ := by
  refine AL.step (σ' := ⟨n, (d, i64 (Min.min ys.length m : Nat)) :: T, (id, some (.row e sz (xs.take lo ++ ys.take m ++ xs.drop (lo + Min.min ys.length m)))) :: H, Hp, clk⟩) hw ?_ h
  rintro c a w ⟨ρ, O, hs⟩ K Q' hK
  have hsz := Nat.eq_of_beq_eq_true hsz
  have hs0 : 0 < sz := by simpa using hs0
  have hxv := ev_sound hs hx
  have hyv := ev_sound hs hy
  have hsize := (hT.facts he).sizeOf (P := P)
  have hu := und_slice hT ht
  obtain ⟨hlm, hval⟩ := seg_val hs hsg hid hxv
  obtain ⟨A, cc, news, s1, s2, s3, s4, s5, s6⟩ := src_cells hs hys hyv hel hs0
  have hlen : (ys.take m).length = Min.min ys.length m := by rw [List.length_take, Nat.min_comm]
  -- what is copied
  have hk : ∃ k, k = Min.min ys.length m ∧ k ≤ ys.length ∧ k ≤ m := ⟨_, rfl, Nat.min_le_left _ _, Nat.min_le_right _ _⟩
  obtain ⟨k, hk1, hk2, hk3⟩ := hk
  have hseg : k * sz ≤ news.length := by rw [s2]; exact Nat.mul_le_mul_right _ hk2
  have hvsl : (news.take (k * sz)).length = k * sz := by rw [List.length_take, Nat.min_eq_left hseg]
  have hload : ∀ ad, A = some ad → (loadCells ad (k * sz)).run P w = .ok (news.take (k * sz)).toArray w := fun ad had => by
    have := run_loadCells_list (P := P) w ad (news.take (k * sz)) (fun j v hj => by
      rw [List.getElem?_take] at hj
      split at hj
      · exact s3 ad had j v hj
      · cases hj)
    rw [hvsl] at this
    exact this
  have hrd : ∀ (j q : Nat) y d, (ys.take m)[j]? = some y → y[q]? = some d → ∃ u, (news.take (k * sz))[j * sz + q]? = some u ∧ Reads O w d u := by
    intro j q y d hy' hd'
    rw [List.getElem?_take] at hy'
    split at hy'
    · rename_i hjm
      have hjy : j < ys.length := (List.getElem?_eq_some_iff.1 hy').1
      obtain ⟨u, u1, u2⟩ := s6 j q y d hy' hd'
      have hq : q < sz := by
        have := (List.getElem?_eq_some_iff.1 hd').1
        rw [hel y (List.mem_of_getElem? hy')] at this
        exact this
      have h3 : (j + 1) * sz ≤ k * sz := Nat.mul_le_mul_right _ (by omega)
      rw [Nat.succ_mul] at h3
      exact ⟨u, by rw [List.getElem?_take, if_pos (by omega)]; exact u1, u2⟩
    · cases hy'
  rcases hval with ⟨hv, rfl, rfl, rfl, hρ⟩ | ⟨gb, cap, cc2, off, cur, hv, hρ, hcap, hlc, hoff, hh, hcs⟩
  · -- a nil slice
    have hk0 : k = 0 := by omega
    subst hk0
    have hrun : (Builtin.copy_ #[t, t2] ty #[.slice none 0 0, .slice A ys.length cc]).run P w = .ok (goInt 0) w := by
      cases A with
      | none => simp [Builtin.copy_, run_underlying hu, Builtin.lenOf, Builtin.firstCells, hsize]
      | some ad =>
        have := hload ad rfl
        simp only [Nat.zero_mul] at this
        simp [Builtin.copy_, run_underlying hu, Builtin.lenOf, Builtin.firstCells, hsize, this]
    unfold Oper.wp
    have hex : (execOp a.eval ⟨some d, .call ⟨.builtin .copy, #[x, y], #[t, t2]⟩, ty, pos, aft, g⟩).run P w = .ok (.value (.int .i64 0)) w := by
      simp [execOp, resolve, invoke, builtin, hv, s1, hrun, goInt]
    rw [hex]
    refine hK _ _ ⟨ρ, O, ?_⟩
    have h0 : (Min.min ys.length 0 : Nat) = 0 := by simp
    have := put_sat (σ' := ⟨n, (d, i64 (0 : Nat)) :: T, H, Hp, clk⟩) hs (v := .int .i64 0) (x := i64 (0 : Nat)) (dst := some d) (.d _ _ (.one _ rfl)) (by simp [put, hd])
    rw [h0]
    refine SatAt.le (σ := ⟨n, (d, i64 (0 : Nat)) :: T, (id, some (.row e sz (List.take 0 ([] : List (List D)) ++ List.take 0 ys ++ List.drop (0 + 0) []))) :: H, Hp, clk⟩) (σ' := ⟨n, (d, i64 (0 : Nat)) :: T, H, Hp, clk⟩) ⟨rfl, rfl, rfl, fun _ _ h => h, fun q b hq => ?_⟩ this
    rcases lk_shadow hq with ⟨rfl, e1⟩ | ⟨_, hq⟩
    · injection e1 with e1
      subst e1
      simp only [hk] at hid
      split at hid
      · rename_i b' hb'
        cases hid
        simpa using hb'
      · cases hid
    · exact hq
  · have hfit : lo * sz + k * sz ≤ cur.size := by
      rw [hcs, ← Nat.add_mul]
      exact Nat.mul_le_mul_right _ (by omega)
    have hoffk : k ≠ 0 → off = lo * sz := fun hk0 => hoff (by omega)
    have hcells : ∃ cur', (storeCells ⟨gb, off, none⟩ (news.take (k * sz)) 0).run P w = .ok () (w.setRow gb cur') ∧ cur'.size = cur.size ∧ ∀ q : Nat, cur'[q]? = if lo * sz ≤ q ∧ q < lo * sz + (news.take (k * sz)).length then (news.take (k * sz))[q - lo * sz]? else cur[q]? := by
      by_cases hk0 : k = 0
      · subst hk0
        obtain ⟨cur', e1, e2, e3⟩ := run_storeSeg (P := P) gb 0 e [] 0 cur w hh (by simp) (fun v hv => by cases hv)
        refine ⟨cur', ?_, e2, fun q => ?_⟩
        · simp only [Nat.zero_mul, List.take_zero]
          exact e1
        · rw [e3, if_neg (by simp), if_neg (by simp)]
      · rw [hoffk hk0]
        obtain ⟨cur', e1, e2, e3⟩ := run_storeSeg (P := P) gb (lo * sz) e (news.take (k * sz)) 0 cur w hh (by rw [hvsl]; omega) (fun v hv => s5 v (List.mem_of_mem_take hv))
        exact ⟨cur', e1, e2, fun q => by rw [e3]; rfl⟩
    obtain ⟨cur', e1, e2, e3⟩ := hcells
    have hrun : (Builtin.copy_ #[t, t2] ty #[.slice (some ⟨gb, off, none⟩) m cc2, .slice A ys.length cc]).run P w = .ok (goInt k) (w.setRow gb cur') := by
      cases A with
      | none =>
        have hy0 : ys = [] := s4 rfl
        subst hy0
        have hk0 : k = 0 := by simpa using hk2
        subst hk0
        simp only [Nat.zero_mul, List.take_zero] at e1
        simp [Builtin.copy_, run_underlying hu, Builtin.lenOf, Builtin.firstCells, hsize, e1]
      | some ad =>
        have hl := hload ad rfl
        have hmin : Nat.min ys.length m = k := hk1.symm
        simp [Builtin.copy_, run_underlying hu, Builtin.lenOf, Builtin.firstCells, hsize, hsz, hmin, hl, e1]
    have hsat := seg_write (lo := lo) (ys := ys.take m) (vs := news.take (k * sz)) hs hid hρ hh hcs hlc (by rw [hvsl, hlen, hk1]) (fun y hy => hel y (List.mem_of_mem_take hy)) hrd (by rw [hlen]; omega) e2 e3
    rw [hlen] at hsat
    unfold Oper.wp
    have hex : (execOp a.eval ⟨some d, .call ⟨.builtin .copy, #[x, y], #[t, t2]⟩, ty, pos, aft, g⟩).run P w = .ok (.value (.int .i64 (k : Int))) (w.setRow gb cur') := by
      simp [execOp, resolve, invoke, builtin, hv, s1, hrun, goInt]
    rw [hex]
    exact hK _ _ ⟨ρ, O, put_sat hsat (v := .int .i64 (k : Int)) (x := i64 (Min.min ys.length m : Nat)) (by rw [← hk1]; exact .d _ _ (.one _ rfl)) (by simp [put, hd])⟩
end
end Go.AM

/- A machine over pure data: part 33: numbers: conversions, shifts by one, quotients and rests. -/
set_option linter.unusedVariables false
set_option linter.unusedSimpArgs false
namespace Go.AM
open Go Go.RowKit

def kmin : IntKind → Int
  | .i8 => -128 | .i16 => -32768 | .i32 => -2147483648 | .i64 => -9223372036854775808
  | _ => 0
def kmax : IntKind → Int
  | .i8 => 127 | .i16 => 32767 | .i32 => 2147483647 | .i64 => 9223372036854775807
  | .u8 => 255 | .u16 => 65535 | .u32 => 4294967295 | .u64 => 18446744073709551615
theorem wrap_in {k : IntKind} {a : Int} (h0 : kmin k ≤ a) (h1 : a ≤ kmax k) : k.wrap a = a := by
  cases k <;> simp only [kmin, kmax] at h0 h1 <;> simp only [IntKind.wrap, IntKind.bits, IntKind.signed] <;> simp <;> (first | (split <;> omega) | omega)

section
variable {P : Program} {l rest : List Oper} {Q : Exit → St → Prop} {n d clk : Nat} {T : List (Nat × AV)} {H : List (Nat × Option Blk)} {Hp : List Blk} {x y : Operand} {t t2 ty : TypeId} {tys : Array TypeId} {pos : String} {aft : Array Edge} {g : Option (Nat × Bool)}

theorem VOp.conv {ts : List (Nat × TI)} (hT : TOK P ts) {o : Option Tmp} {σ : St} {k' k : IntKind} {a r : Int} (hx : ev σ x = some (.d (.one (.int k' a)))) {i1 : TI} (h1 : lk ts t = some i1) {s b : Nat} {z : List AV} (h2 : lk ts t2 = some ⟨.int k, s, b, z⟩) (hr : k.wrap a = r) :
    VOp P σ ⟨o, .convert t t2 x, ty, pos, aft, g⟩ (.d (.one (.int k r))) :=
  VOp.mk fun _ _ _ _ _ hs => ⟨.int k r, fun w' _ => by
    have e1 := one_of (ev_sound hs hx)
    obtain ⟨d1, hd1, _⟩ := (hT.facts h1).und
    simp only [execOp, e1, convert, Sem.run_bind, run_underlying hd1, run_underlying (und_int hT h2), Result.andThen_ok]
    simp [Conv.intToInt, hr], .d _ _ (.one _ rfl)⟩
theorem VOp.shr1 {o : Option Tmp} {σ : St} {k k2 : IntKind} {a : Int} (hx : ev σ x = some (.d (.one (.int k a)))) (hy : ev σ y = some (.d (.one (.int k2 1)))) :
    VOp P σ ⟨o, .binOp .shr t x y t2, ty, pos, aft, g⟩ (.d (.one (.int k (a / 2)))) :=
  VOp.mk fun _ _ _ _ _ hs => ⟨.int k (a / 2), fun w' _ => by
    have e1 := one_of (ev_sound hs hx)
    have e2 := one_of (ev_sound hs hy)
    have e3 : Min.min 1 k.bits = 1 := by cases k <;> rfl
    simp only [execOp, e1, e2]
    simp [eqGuard, binOp, Op.shift, e3, Int.fdiv_eq_ediv_of_nonneg], .d _ _ (.one _ rfl)⟩
theorem VOp.remK {o : Option Tmp} {σ : St} {k : IntKind} {a b : Int} (hx : ev σ x = some (.d (.one (.int k a)))) (hy : ev σ y = some (.d (.one (.int k b)))) (hb : b ≠ 0) :
    VOp P σ ⟨o, .binOp .rem t x y t2, ty, pos, aft, g⟩ (.d (.one (.int k (a.tmod b)))) :=
  VOp.mk fun _ _ _ _ _ hs => ⟨.int k (a.tmod b), fun w' _ => by
    have e1 := one_of (ev_sound hs hx)
    have e2 := one_of (ev_sound hs hy)
    simp only [execOp, e1, e2]
    simp [eqGuard, binOp, Op.intDiv, hb], .d _ _ (.one _ rfl)⟩
theorem VOp.remP {o : Option Tmp} {σ : St} {k : IntKind} {a b : Int} (hx : ev σ x = some (.d (.one (.int k a)))) (hy : ev σ y = some (.d (.one (.int k b)))) (ha : 0 ≤ a) (hb : 0 < b) :
    VOp P σ ⟨o, .binOp .rem t x y t2, ty, pos, aft, g⟩ (.d (.one (.int k (a % b)))) := by
  rw [← Int.tmod_eq_emod_of_nonneg ha]
  exact VOp.remK hx hy (by omega)
theorem VOp.quo {o : Option Tmp} {σ : St} {k : IntKind} {a b r : Int} (hx : ev σ x = some (.d (.one (.int k a)))) (hy : ev σ y = some (.d (.one (.int k b)))) (hb : b ≠ 0) (hr : k.wrap (a.tdiv b) = r) :
    VOp P σ ⟨o, .binOp .quo t x y t2, ty, pos, aft, g⟩ (.d (.one (.int k r))) :=
  VOp.mk fun _ _ _ _ _ hs => ⟨.int k r, fun w' _ => by
    have e1 := one_of (ev_sound hs hx)
    have e2 := one_of (ev_sound hs hy)
    simp only [execOp, e1, e2]
    simp [eqGuard, binOp, Op.intDiv, hb, hr], .d _ _ (.one _ rfl)⟩
end
end Go.AM

/- A machine over pure data: part 34: rows that are made with a length; a part from the front becomes the row. -/
set_option linter.unusedVariables false
set_option linter.unusedSimpArgs false
namespace Go.AM
open Go Go.RowKit

section
variable {P : Program} {l rest : List Oper} {Q : Exit → St → Prop} {n d clk : Nat} {T : List (Nat × AV)} {H : List (Nat × Option Blk)} {Hp : List Blk} {x y : Operand} {t t2 ty : TypeId} {tys : Array TypeId} {pos : String} {aft : Array Edge} {g : Option (Nat × Bool)}

theorem AL.makeSlice {ts : List (Nat × TI)} (hT : TOK P ts) (hw : wantedA l ⟨some d, .makeSlice t x y, ty, pos, aft, g⟩ ⟨n, T, H, Hp, clk⟩ = some true) (hd : Nat.blt d n = true)
    {k1 k2 : IntKind} {a b : Int} (hx : ev ⟨n, T, H, Hp, clk⟩ x = some (.d (.one (.int k1 a)))) (hy : ev ⟨n, T, H, Hp, clk⟩ y = some (.d (.one (.int k2 b))))
    {e s bb : Nat} {z : List AV} (ht : lk ts t = some ⟨.slice e, s, bb, z⟩) {ie : TI} (he : lk ts e = some ie) {ds : List D} (hz : toDs ie.zero some = some ds) (hzl : Nat.beq ds.length ie.size = true)
    {m : Nat} (hm : a = (m : Int)) (hab : a ≤ b) (hb : (ie.bytes : Int) * b ≤ 281474976710656) (h63 : b ≤ 9223372036854775807)
    (h : AL P l Q rest ⟨n, (d, .own (.loc clk)) :: T, (clk, some (.row e ie.size (List.replicate m ds))) :: H, Hp, clk + 1⟩) : AL P l Q (⟨some d, .makeSlice t x y, ty, pos, aft, g⟩ :: rest) ⟨n, T, H, Hp, clk⟩ := by
  refine AL.step (σ' := ⟨n, (d, .own (.loc clk)) :: T, (clk, some (.row e ie.size (List.replicate m ds))) :: H, Hp, clk + 1⟩) hw ?_ h
  rintro c ac w ⟨ρ, O, hs⟩ K Q hK
  have e1 := one_of (ev_sound hs hx)
  have e2 := one_of (ev_sound hs hy)
  obtain ⟨ti, zv, i1, i2, i3, i4, i5⟩ := (hT.facts he).info
  obtain ⟨z1, z2⟩ := zall_sound i5
  obtain ⟨ds', d1, d2, d3, d4⟩ := toDs_spec hz
  cases d1
  have hzl := Nat.eq_of_beq_eq_true hzl
  have hzs : zv.cells.size = ie.size := by rw [← hzl, d2, ← z1]; simp
  have hrun := run_make (P := P) w t e ti zv (und_slice hT ht) i1 i4 k1 k2 a b (by omega) hab (by rw [i3]; exact hb) h63
  rw [i2] at hrun
  obtain ⟨cn, rfl⟩ : ∃ cn : Nat, b = (cn : Int) := ⟨b.toNat, by omega⟩
  subst hm
  simp only [Int.toNat_natCast] at hrun
  generalize hus : madeCells zv.cells (cn * ie.size) = us at hrun
  have hsz : us.size = cn * ie.size := by rw [← hus]; exact size_madeCells _ _
  have hmc : m ≤ cn := by omega
  have hmul : m * ie.size ≤ cn * ie.size := Nat.mul_le_mul_right _ hmc
  have hcell : ∀ j k : Nat, j < m → k < ie.size → us.toList[j * ie.size + k]? = zv.cells[k]? := by
    intro j k hj hk
    have h1 : (j + 1) * ie.size ≤ cn * ie.size := Nat.mul_le_mul_right _ (by omega)
    rw [Nat.succ_mul] at h1
    have h2 : (j * ie.size + k) % zv.cells.size = k := by rw [hzs, Nat.add_comm, Nat.add_mul_mod_self_right, Nat.mod_eq_of_lt hk]
    rw [← hus]
    simp only [madeCells, Array.toList_map, List.getElem?_map]
    rw [Array.getElem?_toList, Array.getElem?_range, if_pos (by omega)]
    simp only [Option.map_some, h2]
    rw [getElem!_pos zv.cells k (by omega), Array.getElem?_eq_getElem (by omega)]
  have hk0 : Keeps O w (fun k => O k ∨ k = w.heap.size) (w.alloc (.cells us e)) := ⟨by simp, fun k hk _ => Below.heap_alloc w _ k hk, fun k hk => by
    rcases hk with hk | hk
    · exact .inl hk
    · exact .inr (by omega)⟩
  have hm := mk_sat hs (.row e ie.size (List.replicate m ds)) (.slice (some ⟨w.heap.size, 0, none⟩) m cn) (.inl rfl) hk0 (by simp) (fun k hk => Below.heap_alloc w _ k hk) rfl rfl rfl
    ⟨_, us.toList.take (m * ie.size), upd_self _ _ _, ⟨by rw [List.length_take, List.length_replicate, Array.length_toList, hsz]; omega, .inr ⟨w.heap.size, cn, us, by simp, Nat.zero_le _, heap_alloc_new w _, by simpa using hmc, by unfold maxLen; omega, hsz, by simp⟩⟩,
      fun x hx => by rw [(List.mem_replicate.1 hx).2]; exact hzl,
      fun j k x d' hx hd' => by
        rw [List.getElem?_replicate] at hx
        split at hx
        · rename_i hj
          cases hx
          have hk : k < ds.length := (List.getElem?_eq_some_iff.1 hd').1
          have hkz : k < zv.cells.size := by omega
          have h1 : (j + 1) * ie.size ≤ m * ie.size := Nat.mul_le_mul_right _ (by omega)
          rw [Nat.succ_mul] at h1
          refine ⟨zv.cells[k], by rw [List.getElem?_take, if_pos (by omega), hcell j k hj (by omega), Array.getElem?_eq_getElem hkz], ?_⟩
          have hxk : ∃ x, ie.zero[k]? = some x := ⟨_, List.getElem?_eq_getElem (by omega)⟩
          obtain ⟨x, hxk⟩ := hxk
          exact d4 _ _ _ k x d' _ hxk hd' (z2 (fun _ => none) _ _ k x _ hxk (by rw [Array.getElem?_toList, Array.getElem?_eq_getElem hkz])).1
        · cases hx⟩
  unfold Oper.wp
  have hex : (execOp ac.eval ⟨some d, .makeSlice t x y, ty, pos, aft, g⟩).run P w = .ok (.value (.slice (some ⟨w.heap.size, 0, none⟩) m cn)) (w.alloc (.cells us e)) := by
    simp only [execOp, e1, e2, Sem.run_bind, hrun, Result.andThen_ok, Sem.run_pure]
  rw [hex]
  refine hK _ _ ⟨_, _, put_sat hm (x := .own (.loc clk)) (.own _ _ (upd_self _ _ _) rfl) ?_⟩
  simp [mk, put, hd]

/-- A part from the front of a row of the call's own, to whose end no other part reaches, is a row of the call's own. -/
theorem trunc_imp {s i sz m e : Nat} {xs : List (List D)} (hs : lk T s = some (.sub (.loc i) sz 0 m true)) (hi : hk ⟨n, T, H, Hp, clk⟩ (.loc i) = some (.row e sz xs)) (hne : xs ≠ []) :
    Imp ⟨n, T, H, Hp, clk⟩ ⟨n, (s, .own (.loc clk)) :: T, (clk, some (.row e sz (xs.take m))) :: (i, none) :: H, Hp, clk + 1⟩ := by
  rintro c a w ⟨ρ, O, h⟩
  obtain ⟨u, hu1, hu2⟩ := h.T s _ hs
  obtain ⟨hlm, hval⟩ := seg_val h (show seg ⟨n, T, H, Hp, clk⟩ (.sub (.loc i) sz 0 m true) = some (.loc i, sz, 0, m) from rfl) hi hu2
  rcases hval with ⟨_, hx, _⟩ | ⟨gb, cap, cc, off, cur, hv, hρ, hcap, hlc, hoff, hh, hcs⟩
  · exact (hne hx).elim
  · have hpos : 0 < xs.length := by cases xs with
      | nil => exact (hne rfl).elim
      | cons => simp
    have hoff0 : off = 0 := by rw [hoff (by omega), Nat.zero_mul]
    have hcc : cc = cap := by omega
    subst hoff0; subst hcc; subst hv
    obtain ⟨v0, vs, b1, b2, b3, b4⟩ := h.H.ok (.loc i) _ hi
    rw [hρ] at b1
    injection b1 with b1
    subst b1
    obtain ⟨c1, c2⟩ := b2
    rcases c2 with ⟨hn, _⟩ | ⟨g', cap', cur', q1, q2, q3, q4, q5, q6, q7⟩
    · cases hn
    · injection q1 with q1 _ q8
      injection q1 with q1
      injection q1 with q1
      subst q1; subst q8
      rw [hh] at q3
      injection q3 with q3
      injection q3 with q3
      subst q3
      have hmul : m * sz ≤ xs.length * sz := Nat.mul_le_mul_right _ (by omega)
      have hk0 : Keeps O w (fun k => O k ∨ (k = w.heap.size ∧ k < w.heap.size)) w := ⟨Nat.le_refl _, fun _ _ _ => rfl, fun k hk => by
        rcases hk with hk | hk
        · exact .inl hk
        · omega⟩
      have hm := rerow_sat (b := .row e sz (xs.take m)) (v1 := .slice (some ⟨gb, 0, none⟩) m cc) (w1 := w) h hi hρ (fun g hg => .inl hg) (Nat.le_refl _) (fun _ _ _ => rfl) rfl rfl rfl
        ⟨_, vs.take (m * sz), upd_self _ _ _, ⟨by rw [List.length_take, List.length_take, c1, Nat.min_eq_left (by omega), Nat.min_eq_left (by omega)], .inr ⟨gb, cc, cur, by rw [List.length_take, Nat.min_eq_left (by omega)], Nat.zero_le _, hh, by rw [List.length_take]; omega, q5, q6, by rw [List.length_take, Nat.min_eq_left (by omega : m ≤ xs.length), ← q7, List.take_take, Nat.min_eq_left hmul]⟩⟩,
          fun x hx => b3 x (List.mem_of_mem_take hx), fun j k x d' hx hd' => by
            rw [List.getElem?_take] at hx
            split at hx
            · rename_i hj
              obtain ⟨u, u1, u2⟩ := b4 j k x d' hx hd'
              have hk : k < sz := by rw [← b3 x (List.mem_of_getElem? hx)]; exact (List.getElem?_eq_some_iff.1 hd').1
              have h1 : (j + 1) * sz ≤ m * sz := Nat.mul_le_mul_right _ (by omega)
              rw [Nat.succ_mul] at h1
              exact ⟨u, by rw [List.getElem?_take, if_pos (by omega)]; exact u1, u2.keep hk0⟩
            · cases hx⟩
      refine ⟨_, _, ⟨hm.defers, hm.n, hm.par, hm.fresh, fun t x ht => ?_, hm.H, hm.F⟩⟩
      rcases lk_shadow ht with ⟨rfl, rfl⟩ | ⟨_, ht⟩
      · exact ⟨_, hu1, .own _ _ (upd_self _ _ _) rfl⟩
      · exact hm.T t x ht
theorem AW.trunc {code : Code} {e i sz m : Nat} {xs : List (List D)} (s : Nat) (hs : lk T s = some (.sub (.loc i) sz 0 m true)) (hi : hk ⟨n, T, H, Hp, clk⟩ (.loc i) = some (.row e sz xs)) (hne : xs ≠ [])
    (h : AW P code Q ⟨n, (s, .own (.loc clk)) :: T, (clk, some (.row e sz (xs.take m))) :: (i, none) :: H, Hp, clk + 1⟩) : AW P code Q ⟨n, T, H, Hp, clk⟩ := AW.imp (trunc_imp hs hi hne) h
theorem AL.trunc {e i sz m : Nat} {xs : List (List D)} (s : Nat) (hs : lk T s = some (.sub (.loc i) sz 0 m true)) (hi : hk ⟨n, T, H, Hp, clk⟩ (.loc i) = some (.row e sz xs)) (hne : xs ≠ [])
    (h : AL P l Q rest ⟨n, (s, .own (.loc clk)) :: T, (clk, some (.row e sz (xs.take m))) :: (i, none) :: H, Hp, clk + 1⟩) : AL P l Q rest ⟨n, T, H, Hp, clk⟩ := AL.imp (trunc_imp hs hi hne) h
end
end Go.AM

/- A machine over pure data: part 35: copy in regions that draw their order; the comparison of two strings. -/
set_option linter.unusedVariables false
set_option linter.unusedSimpArgs false
namespace Go.AM
open Go Go.RowKit

theorem seg_le {σ σ' : St} (h : Le σ σ') {x : AV} {r : Id × Nat × Nat × Nat} (hx : seg σ x = some r) : seg σ' x = some r := by
  cases x with
  | own i =>
    simp only [seg] at hx ⊢
    split at hx
    · rename_i e sz ys hb
      rw [h.hk hb]
      exact hx
    · cases hx
  | sub i sz lo n full => cases full <;> exact hx
  | _ => exact hx
theorem srcOf_le {σ σ' : St} (h : Le σ σ') {x : AV} {xs : List (List D)} (hx : srcOf σ x = some xs) : srcOf σ' x = some xs := by
  cases x with
  | sub i sz lo n full =>
    simp only [srcOf] at hx ⊢
    split at hx
    · rename_i e sz ys hb
      rw [h.hk hb]
      exact hx
    · cases hx
  | own i => exact rowOf_le (x := .own i) h hx
  | d y => exact rowOf_le (x := .d y) h hx
  | nilrow => exact rowOf_le (x := .nilrow) h hx
  | _ => exact hx

section
variable {P : Program} {l : List Oper} {q n d clk : Nat} {T : List (Nat × AV)} {H : List (Nat × Option Blk)} {Hp : List Blk} {x y : Operand} {args : Array Operand} {tys : Array TypeId} {t t2 ty : TypeId} {pos : String} {aft : Array Edge} {g : Option (Nat × Bool)}

theorem OSp.copy {ts : List (Nat × TI)} (hT : TOK P ts) (hw : wantedA l ⟨some d, .call ⟨.builtin .copy, #[x, y], #[t, t2]⟩, ty, pos, aft, g⟩ ⟨n, T, H, Hp, clk⟩ = some true) (hd : Nat.blt d n = true) {vx vy : AV} (hx : ev ⟨n, T, H, Hp, clk⟩ x = some vx) {id sz lo m e : Nat} (hsg : seg ⟨n, T, H, Hp, clk⟩ vx = some (.loc id, sz, lo, m))
    {xs ys : List (List D)} (hid : hk ⟨n, T, H, Hp, clk⟩ (.loc id) = some (.row e sz xs)) (hy : ev ⟨n, T, H, Hp, clk⟩ y = some vy) (hys : srcOf ⟨n, T, H, Hp, clk⟩ vy = some ys) (hel : ∀ y ∈ ys, y.length = sz) (hs0 : Nat.blt 0 sz = true)
    {e' s b : Nat} {z : List AV} (ht : lk ts t = some ⟨.slice e', s, b, z⟩) {ie : TI} (he : lk ts e' = some ie) (hsz : Nat.beq ie.size sz = true) :
    OSp P l q ⟨some d, .call ⟨.builtin .copy, #[x, y], #[t, t2]⟩, ty, pos, aft, g⟩ ⟨n, T, H, Hp, clk⟩ ⟨some (d, i64 (Min.min ys.length m : Nat)), [(id, some (.row e sz (xs.take lo ++ ys.take m ++ xs.drop (lo + Min.min ys.length m))))]⟩ := by
  rintro ⟨n', T', H', Hp', clk'⟩ hl hf
  obtain rfl : n = n' := hl.n
  exact AL.copy hT (wantedA_le hl hw) hd (ev_le hl hx) (seg_le hl hsg) (hl.hk hid) (ev_le hl hy) (srcOf_le hl hys) hel hs0 ht he hsz (AL.nil ⟨rfl, Imp.refl _⟩)

/-- What the comparison of two strings returns. -/
def cmpS (a b : ByteArray) : Int := if strLess a b then -1 else if a = b then 0 else 1
theorem compareBytes_eq : ∀ (a b : List UInt8), Lib.compareBytes a b = if Op.bytesLess a b then -1 else if a = b then 0 else 1
  | [], [] => rfl
  | [], _ :: _ => rfl
  | _ :: _, [] => by simp [Lib.compareBytes, Op.bytesLess]
  | x :: a, y :: b => by
    have ih := compareBytes_eq a b
    simp only [Lib.compareBytes, Op.bytesLess, ih]
    by_cases h1 : x < y
    · simp [h1]
    · by_cases h2 : y < x
      · have : x ≠ y := fun e => by subst e; exact h1 h2
        simp [h1, h2, this]
      · have : x = y := UInt8.le_antisymm (UInt8.not_lt.1 h2) (UInt8.not_lt.1 h1)
        subst this
        simp [h1]
theorem cmpS_eq (a b : ByteArray) : Lib.compareBytes a.data.toList b.data.toList = cmpS a b := by
  rw [compareBytes_eq]
  unfold cmpS strLess
  have := toList_inj (x := a) (y := b)
  by_cases h : a = b
  · subst h; simp
  · have h2 : a.data.toList ≠ b.data.toList := fun e => by
      have e' : (a.data.toList == b.data.toList) = true := by simpa using e
      rw [toList_inj] at e'
      exact h (by simpa using e')
    simp [h, h2]
theorem VOp.cmpS {o : Option Tmp} {σ : St} {a b : ByteArray} {c : Operand} {f : FuncId} {fn : Func} (hc : ev σ c = some (.fn f [])) (hf : P.funcs[f]? = some fn) (h1 : (fn.name == "runtime.NumGoroutine") = false) (h2 : fn.body.isNone = true)
    (h3 : Extern.findNext fn = none) (h4 : Extern.find fn = some Extern.BytealgCompare.compare) (hx : ev σ x = some (st a)) (hy : ev σ y = some (st b)) :
    VOp P σ ⟨o, .call ⟨.value c, #[x, y], tys⟩, ty, pos, aft, g⟩ (i64 (cmpS a b)) :=
  VOp.mk fun _ ac w _ _ hs => ⟨.int .i64 (AM.cmpS a b), fun w' _ => by
    have e1 := one_of (ev_sound hs hx)
    have e2 := one_of (ev_sound hs hy)
    have e3 := ev_sound hs hc
    generalize hq : ac.eval c = q at e3
    cases e3 with
    | fn _ _ cvs hl hcv =>
      have : cvs = #[] := Array.eq_empty_of_size_eq_zero (by simpa using hl.symm)
      subst this
      have hrun := run_callFunc_extern hf h1 h2 h3 h4 #[.string a, .string b] w'
      rw [Lib.run_compareString, cmpS_eq] at hrun
      simp only [Result.andThen] at hrun
      simp [execOp, resolve, hq, e1, e2, Deferred.ofValue, invoke, hrun], .d _ _ (.one _ rfl)⟩
end
end Go.AM

/- A machine over pure data: part 36: a row of the call's own and a number beside it, as a result. -/
set_option linter.unusedVariables false
set_option linter.unusedSimpArgs false
namespace Go.AM
open Go Go.RowKit

theorem Out.rowT {Hp : List Blk} {σ : St} {j e sz : Nat} {xs : List (List D)} {y : D} {R : AV → List Blk → List Rw → Prop} (hk' : hk σ (.loc j) = some (.row e sz xs)) (h : R (.tup [.own (.loc 0), .d y]) σ.Hp [⟨e, sz, xs⟩]) (hp : σ.Hp = Hp) :
    Out Hp σ (.tup [.own (.loc j), .d y]) R (.tup [.own (.loc 0), .d y]) [⟨e, sz, xs⟩] [j] := by
  refine ⟨h, rfl, rfl, rfl, by simp, fun k i rw h1 h2 => ?_, .inl hp⟩
  cases k with
  | zero =>
    simp at h1 h2
    subst h1; subst h2
    exact hk'
  | succ k => simp at h1

def ACallOT (P : Program) (f : FuncId) (args : List AV) (e sz : Nat) (xs : List (List D)) (y : D) : Prop := ACalls P f args [] fun r' _ Hr => r' = .tup [.own (.loc 0), .d y] ∧ Hr = [⟨e, sz, xs⟩]

section
variable {P : Program} {l rest : List Oper} {Q : Exit → St → Prop} {n d clk : Nat} {T : List (Nat × AV)} {H : List (Nat × Option Blk)} {Hp : List Blk} {x : Operand} {args : Array Operand} {tys : Array TypeId} {ty : TypeId} {pos : String} {aft : Array Edge} {g : Option (Nat × Bool)}
theorem AL.callOT (hw : wantedA l ⟨some d, .call ⟨.value x, args, tys⟩, ty, pos, aft, g⟩ ⟨n, T, H, Hp, clk⟩ = some true) (hd : Nat.blt d n = true) {f : FuncId} {caps as_ : List AV} (hx : ev ⟨n, T, H, Hp, clk⟩ x = some (.fn f caps))
    (ha : aevs ⟨n, T, H, Hp, clk⟩ args.toList some = some as_) (hpk : (as_ ++ caps).all (pk2 0) = true) {e sz : Nat} {xs : List (List D)} {y : D} (hc : ACallOT P f (as_ ++ caps) e sz xs y)
    (h : AL P l Q rest ⟨n, (d, .tup [.own (.loc clk), .d y]) :: T, (clk, some (.row e sz xs)) :: H, Hp, clk + 1⟩) :
    AL P l Q (⟨some d, .call ⟨.value x, args, tys⟩, ty, pos, aft, g⟩ :: rest) ⟨n, T, H, Hp, clk⟩ :=
  AL.callR hw hd hx ha hpk hc (fun r Hr ⟨h2, h3⟩ => by
    subst h2; subst h3
    exact ⟨rfl, h⟩)
theorem ACallOT.dr {f : FuncId} {as_ : List AV} {e sz : Nat} {xs : List (List D)} {y : D} (h : ACallOT P f as_ e sz xs y) : ACallP P f as_ (.tup [.d (.row xs), .d y]) := by
  have h1 : ACallPR P f as_ fun r' => ∃ (r : AV) (Hr : List Rw), (r = .tup [.own (.loc 0), .d y] ∧ Hr = [⟨e, sz, xs⟩]) ∧ r' = dr2 Hr r := ACalls.dr h
  refine ⟨h1.1, fun c vs hi => (h1.2 c vs hi).mono ?_⟩
  rintro e' w' ⟨r, Hp', Hr, v, ρ, O, ⟨⟨r0, Hr0, ⟨rfl, rfl⟩, rfl⟩, rfl⟩, he, hf⟩
  exact ⟨_, _, _, v, ρ, O, ⟨rfl, rfl⟩, he, hf⟩
end
end Go.AM

/- A machine over pure data: part 37: a call that is lent rows and handed variables of numbers, Bools and strings, and leaves them as they were; cuts whose bounds are sums. -/
set_option linter.unusedVariables false
set_option linter.unusedSimpArgs false
namespace Go.AM
open Go Go.RowKit

def scB : Blk → Bool
  | .box _ cells => cells.all scal1
  | _ => false
theorem scB_bok {ρ ρ' : Env} {O O' : Nat → Prop} {w : World} {i i' : Id} (hi : ρ i = ρ' i') {b : Blk} (hb : scB b = true) (h : BOK ρ O w i b) : BOK ρ' O' w i' b := by
  cases b with
  | box e cells =>
    obtain ⟨g, vs, h1, h2, h3, h4⟩ := h
    exact ⟨g, vs, by rw [← hi]; exact h1, h2, h3, fun k x v hx hv => ⟨scal1_vr (List.all_eq_true.1 hb x (List.mem_of_getElem? hx)) (h4 k x v hx hv).1, (h4 k x v hx hv).2⟩⟩
  | _ => cases hb
def ctxL (ρ : Env) (w : World) (m : List Id) : Ctx :=
  ⟨fun k => (m[k]?).bind ρ, fun g => ∃ i, i ∈ m ∧ (ρ i).bind vblk = some g, fun g => ∃ i, i ∈ m ∧ (ρ i).bind vblk = some g, w, fun _ => False, []⟩

section
variable {P : Program} {l rest : List Oper} {Q : Exit → St → Prop} {n d clk : Nat} {T : List (Nat × AV)} {H : List (Nat × Option Blk)} {Hp : List Blk} {x y : Operand} {args : Array Operand} {tys : Array TypeId} {t t2 ty : TypeId} {pos : String} {aft : Array Edge} {g : Option (Nat × Bool)}

theorem AL.callBU (hw : wantedA l ⟨some d, .call ⟨.value x, args, tys⟩, ty, pos, aft, g⟩ ⟨n, T, H, Hp, clk⟩ = some true) (hd : Nat.blt d n = true) {f : FuncId} {caps as_ : List AV} (hx : ev ⟨n, T, H, Hp, clk⟩ x = some (.fn f caps))
    (ha : aevs ⟨n, T, H, Hp, clk⟩ args.toList some = some as_) (m : List Id) {HpC : List Blk} (hHp : m.map (hk ⟨n, T, H, Hp, clk⟩) = HpC.map some) (hsb : HpC.all scB = true) (hnd : m.Nodup) {ys : List AV} (hys : ys.map (rp2 m) = (as_.map (lend ⟨n, T, H, Hp, clk⟩)) ++ caps)
    (hpk : ys.all (pk2 m.length) = true) {R : AV → Prop} (hc : ACalls P f ys HpC fun r Hp' Hr => R r ∧ ok3 0 r = true ∧ Hp' = HpC ∧ Hr = []) (h : ∀ r, R r → scal r = true ∧ AL P l Q rest ⟨n, (d, r) :: T, H, Hp, clk⟩) :
    AL P l Q (⟨some d, .call ⟨.value x, args, tys⟩, ty, pos, aft, g⟩ :: rest) ⟨n, T, H, Hp, clk⟩ := by
  rintro c a w ⟨ρ, O, hs⟩
  refine wpList_step fun K hK => ?_
  rw [if_pos (wantedA_sound hw ⟨ρ, O, hs⟩)]
  have hxv := ev_sound hs hx
  generalize hq : a.eval x = q at hxv
  have hblk : ∀ (k : Nat) b, HpC[k]? = some b → ∃ i, m[k]? = some i ∧ hk ⟨n, T, H, Hp, clk⟩ i = some b := by
    intro k b hb
    have e := congrArg (fun l => l[k]?) hHp
    simp only [List.getElem?_map, hb, Option.map_some] at e
    rw [Option.map_eq_some_iff] at e
    exact e
  have hmb : ∀ i, i ∈ m → ∃ (k : Nat) (b : Blk), m[k]? = some i ∧ HpC[k]? = some b ∧ hk ⟨n, T, H, Hp, clk⟩ i = some b ∧ scB b = true := by
    intro i hi
    obtain ⟨k, hk'⟩ := List.getElem?_of_mem hi
    have e := congrArg (fun l => l[k]?) hHp
    simp only [List.getElem?_map, hk', Option.map_some] at e
    rw [eq_comm, Option.map_eq_some_iff] at e
    obtain ⟨b, e1, e2⟩ := e
    exact ⟨k, b, hk', e1, e2.symm, List.all_eq_true.1 hsb b (List.mem_of_getElem? e1)⟩
  have hWO : ∀ g, (∃ i, i ∈ m ∧ (ρ i).bind vblk = some g) → O g ∧ g < w.heap.size := by
    rintro g ⟨i, hi, hg⟩
    obtain ⟨k, b, _, _, hb, _⟩ := hmb i hi
    have e := hs.H.own i b g hb hg
    exact ⟨e.1, e.2.1⟩
  have hk0 : Keeps O w (ctxL ρ w m).O0 w := ⟨Nat.le_refl _, fun _ _ _ => rfl, fun k hk => .inl (hWO k hk).1⟩
  have hmρ : ∀ k, ρ0 (ctxL ρ w m) (.par k) = (m[k]?).bind ρ := fun _ => rfl
  cases hxv with
  | fn _ _ cvs hcl' hcv =>
    obtain ⟨ha1, ha2⟩ := aevs_vals hs ha
    unfold Oper.wp
    rw [run_call rfl hq hc.1 w]
    rw [Oper.upon_enter]
    have hini : Ini (ctxL ρ w m) ys HpC (args.map a.eval ++ cvs) := by
      have hlen : ys.length = as_.length + caps.length := by
        have := congrArg List.length hys
        simpa using this
      refine ⟨by simp [hlen, ha1, hcl'], fun k y v hy hv => ?_, ⟨fun i b hb => ?_, fun i b g hb hg => ?_, fun i j bi bj g hbi hbj hgi hgj => ?_⟩, ?_, ?_, fun k hk => hk, rfl⟩
      · refine rp2_vr (ρ := ρ) hmρ (List.all_eq_true.1 hpk y (List.mem_of_getElem? hy)) ?_
        have e := congrArg (fun l => l[k]?) hys
        simp only [List.getElem?_map, hy, Option.map_some] at e
        rw [Array.getElem?_append] at hv
        simp only [Array.size_map] at hv
        rw [List.getElem?_append] at e
        simp only [List.length_map] at e
        by_cases hk' : k < args.size
        · rw [if_pos hk'] at hv
          rw [if_pos (by omega), List.getElem?_map, eq_comm, Option.map_eq_some_iff] at e
          obtain ⟨z, hz, e⟩ := e
          rw [← e]
          have hzv := ha2 k z v hz hv
          have atom : ∀ z v, VR ρ O w z v → VR ρ (ctxL ρ w m).O0 w (lend1 ⟨n, T, H, Hp, clk⟩ z) v := by
            intro z v hzv
            cases z with
            | own i =>
              simp only [lend1]
              split
              · rename_i e' sz xs hb
                cases hzv with
                | own _ _ h5 h6 =>
                  refine .d _ _ (own_reads (hs.H.ok i _ hb) h5 (fun k hk => (hWO k hk).1) (fun g hg h0 => ?_))
                  obtain ⟨j, hj, hgj⟩ := h0
                  obtain ⟨k', b, _, _, hb', hsc⟩ := hmb j hj
                  have := hs.H.inj i j _ b g hb hb' (by rw [h5]; exact hg) hgj
                  subst this
                  rw [hb] at hb'
                  cases hb'
                  cases hsc
              · exact hzv.keep (Ext.refl ρ) hk0
            | _ => exact hzv.keep (Ext.refl ρ) hk0
          cases z with
          | agg xs =>
            cases hzv with
            | agg _ vs hl hc =>
              refine .agg _ vs (by simpa using hl) fun k x u hx hu => ?_
              rw [List.getElem?_map, Option.map_eq_some_iff] at hx
              obtain ⟨y, hy, rfl⟩ := hx
              exact atom y u (hc k y u hy hu)
          | own i => exact atom _ _ hzv
          | d y => exact atom _ _ hzv
          | nilrow => exact atom _ _ hzv
          | ptr i off => exact atom _ _ hzv
          | eptr y => exact atom _ _ hzv
          | rptr i sz j f => exact atom _ _ hzv
          | sub i sz lo n full => exact atom _ _ hzv
          | bsl i n => exact atom _ _ hzv
          | tup y => exact atom _ _ hzv
          | fn f y => exact atom _ _ hzv
          | junk => exact atom _ _ hzv
        · rw [if_neg hk'] at hv
          rw [if_neg (by omega)] at e
          rw [ha1] at e
          exact (hcv _ _ v e.symm hv).keep (Ext.refl ρ) hk0
      · cases i with
        | loc k => cases hb
        | par k =>
          obtain ⟨i, e1, e2⟩ := hblk k b hb
          exact scB_bok (ρ := ρ) (i := i) (by rw [hmρ, e1]; rfl) (List.all_eq_true.1 hsb b (List.mem_of_getElem? hb)) (hs.H.ok i b e2)
      · cases i with
        | loc k => cases hb
        | par k =>
          obtain ⟨i, e1, e2⟩ := hblk k b hb
          rw [hmρ, e1] at hg
          exact ⟨⟨i, List.mem_of_getElem? e1, hg⟩, (hWO g ⟨i, List.mem_of_getElem? e1, hg⟩).2, ⟨i, List.mem_of_getElem? e1, hg⟩⟩
      · cases i with
        | loc k => cases hbi
        | par k =>
          cases j with
          | loc k' => cases hbj
          | par k' =>
            obtain ⟨i, e1, e2⟩ := hblk k bi hbi
            obtain ⟨j, e3, e4⟩ := hblk k' bj hbj
            rw [hmρ, e1] at hgi
            rw [hmρ, e3] at hgj
            have := hs.H.inj i j bi bj g e2 e4 hgi hgj
            subst this
            have hk1 : k < m.length := (List.getElem?_eq_some_iff.1 e1).1
            rw [(List.getElem?_inj hk1 hnd).1 (e1.trans e3.symm)]
      · exact fun g hg => ⟨hg, (hWO g hg).2⟩
      · exact fun g hg => (hWO g hg).2
    refine (hc.2 _ _ hini).mono ?_
    rintro e w2 ⟨r, Hp', Hr, v, ρ2, O2, ⟨hR, hok, rfl, rfl⟩, rfl, hf⟩
    obtain ⟨hsc, h⟩ := h r hR
    have hF2 := hf.F
    have hF := hs.F
    have hsm : ∀ k, k < w.heap.size → ¬ (∃ i, i ∈ m ∧ (ρ i).bind vblk = some k) → w2.heap[k]? = w.heap[k]? := fun k hk h => hF2.same k hk h (fun h => h)
    have hkeep : Keeps O w O w2 := ⟨hF2.size, fun k hk hO => hsm k hk (fun h => hO (hWO k h).1), fun k hk => .inl hk⟩
    have hsat : SatAt c ⟨n, T, H, Hp, clk⟩ a w2 ρ O := by
      refine ⟨hs.defers, hs.n, hs.par, hs.fresh, fun t y ht => ?_, ⟨fun i b hb => ?_, fun i b g hb hg => ?_, hs.H.inj⟩, ?_⟩
      · obtain ⟨u, e1, e2⟩ := hs.T t y ht
        exact ⟨u, e1, e2.keep (Ext.refl ρ) hkeep⟩
      · by_cases hi : i ∈ m
        · obtain ⟨k, b', e1, e2, e3, e4⟩ := hmb i hi
          rw [hb] at e3
          cases e3
          refine scB_bok (ρ := ρ2) (O := O2) (i := .par k) ?_ e4 (hf.H.ok (.par k) b (by simpa [hk, finS] using e2))
          rw [hf.par]
          simp [ctxL, e1]
        · refine (hs.H.ok i b hb).keep (Ext.refl ρ) hkeep (fun g hg => hsm g (hs.H.own i b g hb hg).2.1 ?_)
          rintro ⟨j, hj, hgj⟩
          obtain ⟨k, b', _, _, hb', _⟩ := hmb j hj
          have := hs.H.inj i j b b' g hb hb' hg hgj
          subst this
          exact hi hj
      · obtain ⟨e1, e2, e3⟩ := hs.H.own i b g hb hg
        exact ⟨e1, Nat.lt_of_lt_of_le e2 hF2.size, e3⟩
      · refine ⟨hF2.os.trans hF.os, hF2.tape.trans hF.tape, hF2.output.trans hF.output, Nat.le_trans hF.size hF2.size, fun k hk' hkW hkG => (hsm k (Nat.lt_of_lt_of_le hk' hF.size) ?_).trans (hF.same k hk' hkW hkG), hF.mono, hF.news, hF.wlt,
          fun k hk' => Nat.lt_of_lt_of_le (hF.olt k hk') hF2.size, hF.olt0, hF.glt⟩
        rintro ⟨i, hi, hg⟩
        obtain ⟨k', b, _, _, hb, _⟩ := hmb i hi
        rcases place_or (hs.H.own i b k hb hg).2.2 with h1 | h1 | h1
        · exact hkW h1
        · omega
        · exact hkG h1
    exact hK _ _ (h c _ w2 ⟨ρ, O, put_sat hsat (v := v) (x := r) (scal_vr hsc hf.r) (by simp [put, hd])⟩)

theorem toNat_succ (k : Nat) : ((k : Int) + 1).toNat = k + 1 := by omega
theorem VOp.cutOI {ts : List (Nat × TI)} (hT : TOK P ts) {lo hi : Option Operand} {o : Option Tmp} {σ : St} {vx : AV} (hx : ev σ x = some vx) {id : Id} {sz b m : Nat} (hsg : seg σ vx = some (id, sz, b, m)) {e : Nat} {xs : List (List D)} (hid : hk σ id = some (.row e sz xs))
    {e' s b' : Nat} {z : List AV} (ht : lk ts t = some ⟨.slice e', s, b', z⟩) {ie : TI} (he : lk ts e' = some ie) (hsz : Nat.beq ie.size sz = true) {i j : Int} (hlo : bnd σ lo 0 = some i) (hhi : bnd σ hi (m : Nat) = some j) (h0 : 0 ≤ i) (h1 : i ≤ j) (h2 : (b : Int) + j ≤ xs.length) :
    VOp P σ ⟨o, .slice t x lo hi none, ty, pos, aft, g⟩ (.sub id sz (b + i.toNat) (j.toNat - i.toNat) true) := by
  obtain ⟨i', rfl⟩ : ∃ k : Nat, i = k := ⟨i.toNat, by omega⟩
  obtain ⟨j', rfl⟩ : ∃ k : Nat, j = k := ⟨j.toNat, by omega⟩
  exact VOp.cutO hT hx hsg hid ht he hsz hlo hhi (by omega) (by omega)
/-- x[:j:j] -/
theorem VOp.cutToM {ts : List (Nat × TI)} (hT : TOK P ts) {hi mx : Operand} {o : Option Tmp} {σ : St} {α : Type} {f : α → List D} {xs : List α} (hx : ev σ x = some (.d (.row (xs.map f))))
    {e s b : Nat} {z : List AV} (ht : lk ts t = some ⟨.slice e, s, b, z⟩) {ie : TI} (he : lk ts e = some ie) (hf : ∀ x, (f x).length = ie.size) {j m : Nat} (hhi : bnd σ (some hi) 0 = some (j : Int)) (hmx : bnd σ (some mx) (j : Int) = some (m : Int)) (h3 : j ≤ m) (h4 : m ≤ xs.length) :
    VOp P σ ⟨o, .slice t x none (some hi) (some mx), ty, pos, aft, g⟩ (.d (.row ((xs.take j).map f))) := by
  have := VOp.cutM (P := P) (lo := none) (hi := some hi) (mx := some mx) (o := o) (ty := ty) (pos := pos) (aft := aft) (g := g) (i := 0) (j := j) (m := m) hT hx ht he hf rfl hhi hmx (by simp) (by omega) (by omega) h4
  simpa using this
/-- x[i:j], i and j numbers. -/
theorem VOp.cutMI {ts : List (Nat × TI)} (hT : TOK P ts) {lo hi : Option Operand} {o : Option Tmp} {σ : St} {α : Type} {f : α → List D} {xs : List α} (hx : ev σ x = some (.d (.row (xs.map f))))
    {e s b : Nat} {z : List AV} (ht : lk ts t = some ⟨.slice e, s, b, z⟩) {ie : TI} (he : lk ts e = some ie) (hf : ∀ x, (f x).length = ie.size) {i j : Int} (hlo : bnd σ lo 0 = some i) (hhi : bnd σ hi (xs.map f).length = some j) (h0 : 0 ≤ i) (h1 : i ≤ j) (h2 : j ≤ xs.length) :
    VOp P σ ⟨o, .slice t x lo hi none, ty, pos, aft, g⟩ (.d (.row (((xs.take j.toNat).drop i.toNat).map f))) := by
  obtain ⟨i', rfl⟩ : ∃ k : Nat, i = k := ⟨i.toNat, by omega⟩
  obtain ⟨j', rfl⟩ : ∃ k : Nat, j = k := ⟨j.toNat, by omega⟩
  have := VOp.cutM (P := P) (lo := lo) (hi := hi) (mx := none) (o := o) (ty := ty) (pos := pos) (aft := aft) (g := g) (i := i') (j := j') (m := j') hT hx ht he hf hlo hhi rfl (by simp) (by omega) (by omega) (by omega)
  simpa using this
end
end Go.AM

/- A machine over pure data: part 38: a nil slice among the cells of a value is data without elements. -/
set_option linter.unusedVariables false
set_option linter.unusedSimpArgs false
namespace Go.AM
open Go Go.RowKit

def nd1 : AV → AV
  | .nilrow => .d (.row [])
  | x => x
def nd2 : AV → AV
  | .agg xs => .agg (xs.map nd1)
  | .tup xs => .tup (xs.map nd1)
  | x => nd1 x
section
variable {ρ : Env} {O : Nat → Prop} {w : World}
theorem nd1_vr {x : AV} {v : Value} (h : VR ρ O w x v) : VR ρ O w (nd1 x) v := by
  cases h with
  | nilrow => exact .d _ _ (.none _ _)
  | d x v h => exact .d x v h
  | ptr i off g h => exact .ptr i off g h
  | rptr i sz j f g h => exact .rptr i sz j f g h
  | eptr rest p u hO hb hcell hsub => exact .eptr rest p u hO hb hcell hsub
  | own i v h h1 => exact .own i v h h1
  | agg xs vs hl h => exact .agg xs vs hl h
  | tup xs vs hl h => exact .tup xs vs hl h
  | fn f caps vs hl h => exact .fn f caps vs hl h
  | sub i sz lo n full g L C c off h h1 h2 h3 h4 h5 => exact .sub i sz lo n full g L C c off h h1 h2 h3 h4 h5
  | subN i sz full h => exact .subN i sz full h
  | bsl i n g h => exact .bsl i n g h
  | junk v => exact .junk v
theorem nd2_vr {x : AV} {v : Value} (h : VR ρ O w x v) : VR ρ O w (nd2 x) v := by
  have lst : ∀ (l : List AV) (vs : Array Value), (∀ (k : Nat) x v, l[k]? = some x → vs[k]? = some v → VR ρ O w x v) → ∀ (k : Nat) x v, (l.map nd1)[k]? = some x → vs[k]? = some v → VR ρ O w x v := by
    intro l vs hc k y v hy hv
    rw [List.getElem?_map, Option.map_eq_some_iff] at hy
    obtain ⟨z, hz, rfl⟩ := hy
    exact nd1_vr (hc k z v hz hv)
  cases x with
  | agg l => cases h with | agg _ vs hl hc => exact .agg _ vs (by simpa using hl) (lst l vs hc)
  | tup l => cases h with | tup _ vs hl hc => exact .tup _ vs (by simpa using hl) (lst l vs hc)
  | _ => exact nd1_vr h
end
theorem Imp.nilA (s : Nat) {x : AV} {n clk : Nat} {T : List (Nat × AV)} {H : List (Nat × Option Blk)} {Hp : List Blk} (hs : lk T s = some x) : Imp ⟨n, T, H, Hp, clk⟩ ⟨n, (s, nd2 x) :: T, H, Hp, clk⟩ := by
  rintro c a w ⟨ρ, O, h⟩
  refine ⟨ρ, O, h.defers, h.n, h.par, h.fresh, fun t x ht => ?_, h.H, h.F⟩
  rcases lk_shadow ht with ⟨rfl, rfl⟩ | ⟨_, ht⟩
  · obtain ⟨v, e1, e2⟩ := h.T _ _ hs
    exact ⟨v, e1, nd2_vr e2⟩
  · exact h.T t x ht
section
variable {P : Program} {l rest : List Oper} {Q : Exit → St → Prop} {n d clk : Nat} {T : List (Nat × AV)} {H : List (Nat × Option Blk)} {Hp : List Blk} {code : Code}
theorem AL.nilA (s : Nat) {x y : AV} (hs : lk T s = some x) (hy : nd2 x = y) (h : AL P l Q rest ⟨n, (s, y) :: T, H, Hp, clk⟩) : AL P l Q rest ⟨n, T, H, Hp, clk⟩ := by
  subst hy
  exact AL.imp (Imp.nilA s hs) h
theorem AW.nilA (s : Nat) {x y : AV} (hs : lk T s = some x) (hy : nd2 x = y) (h : AW P code Q ⟨n, (s, y) :: T, H, Hp, clk⟩) : AW P code Q ⟨n, T, H, Hp, clk⟩ := by
  subst hy
  exact AW.imp (Imp.nilA s hs) h
end
theorem ACalls.nilA {P : Program} {f : FuncId} {ys ys' : List AV} {R : AV → List Blk → List Rw → Prop} (h : ACalls P f ys' [] R) (he : ys.map nd2 = ys') : ACalls P f ys [] R := by
  refine ⟨h.1, fun c vs hi => h.2 c vs ⟨?_, fun k x v hx hv => ?_, hi.H, hi.wlt, hi.olt, hi.gn⟩⟩
  · rw [← he]; simpa using hi.len
  · rw [← he, List.getElem?_map, Option.map_eq_some_iff] at hx
    obtain ⟨y, hy, rfl⟩ := hx
    exact nd2_vr (hi.args k y v hy hv)
theorem ACallP.nilA {P : Program} {f : FuncId} {ys ys' : List AV} {r : AV} (h : ACallP P f ys' r) (he : ys.map nd2 = ys') : ACallP P f ys r := ACalls.nilA h he
end Go.AM

/- A machine over pure data: part 39: a call that is given a row for good. -/
set_option linter.unusedVariables false
set_option linter.unusedSimpArgs false
namespace Go.AM
open Go Go.RowKit

structure IniG (c : Ctx) (args : List AV) (Hg : List Rw) (vs : Array Value) (ρ : Env) : Prop where
  len : vs.size = args.length
  par : ∀ k, ρ (.par k) = c.ρp k
  fresh : ∀ k, Hg.length ≤ k → ρ (.loc k) = none
  args : ∀ (k : Nat) x v, args[k]? = some x → vs[k]? = some v → VR ρ (fun g => c.O0 g ∨ c.G g) c.w0 x v
  H : HS c ρ (fun g => c.O0 g ∨ c.G g) c.w0 (hk (finS [] Hg))
  wlt : ∀ k, c.W k → c.O0 k ∧ k < c.w0.heap.size
  olt : ∀ k, c.O0 k → k < c.w0.heap.size
  glt : ∀ k, c.G k → ¬ c.O0 k ∧ k < c.w0.heap.size
  df : c.dfr = []

/-- A contract of a function that is given rows for good. -/
def ACallsG (P : Program) (f : FuncId) (args : List AV) (Hg : List Rw) (R : AV → List Blk → List Rw → Prop) : Prop :=
  Callable P f ∧ ∀ c vs ρ, IniG c args Hg vs ρ → Calls P f vs c.w0 fun e w' => ∃ r Hp' Hr v ρ O, R r Hp' Hr ∧ e = .returned v ∧ FinAt c r Hp' Hr v w' ρ O

theorem inig_sat {c : Ctx} {args : List AV} {Hg : List Rw} {vs : Array Value} {ρ : Env} (h : IniG c args Hg vs ρ) (n : Nat) (hn : args.length ≤ n) :
    SatAt c ⟨n, argT 0 args, rowsH 0 Hg, [], Hg.length⟩ { tmps := vs ++ Array.replicate (n - vs.size) undef, defers := [] } c.w0 ρ (fun g => c.O0 g ∨ c.G g) := by
  have hl := h.len
  refine ⟨h.df.symm, by simp; omega, h.par, h.fresh, fun t x ht => ?_, h.H, ⟨rfl, rfl, rfl, Nat.le_refl _, fun _ _ _ _ => rfl, fun _ h => .inl h, fun k hk => hk.imp id .inr, h.wlt, fun k hk => hk.elim (h.olt k) (fun hk => (h.glt k hk).2), h.olt, h.glt⟩⟩
  obtain ⟨_, h2⟩ := lk_argT args 0 t ht
  simp only [Nat.sub_zero] at h2
  have hlt : t < vs.size := by rw [hl]; exact (List.getElem?_eq_some_iff.1 h2).1
  refine ⟨vs[t], ?_, h.args t x _ h2 (by simp [hlt])⟩
  simp [Array.getElem?_append, hlt]

theorem ACallsG.body {P : Program} {ts : List (Nat × TI)} (hT : TOK P ts) {f : FuncId} {fn : Func} {code : Code} {args : List AV} {Hg : List Rw} {R : AV → List Blk → List Rw → Prop}
    (hf : P.funcs[f]? = some fn) (hb : fn.body = some code) (hname : (fn.name == "runtime.NumGoroutine") = false) (hn : args.length ≤ fn.ntmps)
    (h : AW P code (retQ ts fn.results.toList [] R) ⟨fn.ntmps, argT 0 args, rowsH 0 Hg, [], Hg.length⟩) : ACallsG P f args Hg R := by
  refine ⟨⟨fn, hf, hname, by rw [hb]; rfl⟩, fun c vs ρ hi => ?_⟩
  have hs := inig_sat hi fn.ntmps hn
  refine calls_of_wp hf hb (wp_mono (h c _ _ ⟨_, _, hs⟩) ?_)
  have fin : ∀ a w σ, (∃ rf r Hr m, ares ts fn.results.toList σ = some rf ∧ Out [] σ rf R r Hr m) → Sat c σ a w →
      a.defers = [] ∧ ∃ v, (results fn a.tmps).run P w = .ok v w ∧ ∃ r Hp' Hr v' ρ O, R r Hp' Hr ∧ Ending.returned v = .returned v' ∧ FinAt c r Hp' Hr v' w ρ O := by
    rintro a w σ ⟨rf, r, Hr, m, hr, ho⟩ ⟨ρ, O, hs'⟩
    refine fin_of hT hs' hi.df hr ho (fun k b hb' => ?_)
    rcases ho.hp with he | hl
    · rw [he] at hb'
      simp at hb'
    · exact hl b (List.mem_of_getElem? hb')
  rintro e a w ⟨σ, hq, hs'⟩
  cases e with
  | normal => exact fin a w σ hq hs'
  | ret => exact fin a w σ hq hs'
  | exit id => exact hq.elim
  | goto l => exact hq.elim
  | panic ch => exact hq.elim
  | outgrown => exact hq.elim

/-- Its rows 0, 1, .. are the caller's rows is. -/
def tk1 (is : List Nat) : AV → AV
  | .own (.loc k) => .own (.loc (is.getD k 0))
  | x => x
def tkOk (n : Nat) : AV → Bool
  | .own (.loc k) => Nat.blt k n
  | x => pk2 0 x
def GGb (ρ : Env) (is : List Nat) (g : Nat) : Prop := ∃ i, i ∈ is ∧ (ρ (.loc i)).bind vblk = some g
def ctxT (ρ : Env) (O : Nat → Prop) (w : World) (is : List Nat) : Ctx :=
  ⟨fun _ => none, fun g => O g ∧ ¬ GGb ρ is g, fun _ => False, w, GGb ρ is, []⟩
def envT (ρ : Env) (is : List Nat) : Env
  | .loc k => (is[k]?).bind fun i => ρ (.loc i)
  | _ => none
def dropI (is : List Nat) (H : List (Nat × Option Blk)) : List (Nat × Option Blk) := is.map (fun i => (i, (none : Option Blk))) ++ H
theorem lk_dropI (H : List (Nat × Option Blk)) : ∀ (is : List Nat) (k : Nat), lk (dropI is H) k = if k ∈ is then some none else lk H k
  | [], k => by simp [dropI]
  | i :: is, k => by
    have ih := lk_dropI H is k
    simp only [dropI, List.map_cons, List.cons_append]
    by_cases e : i = k
    · subst e
      rw [lk_cons_self, if_pos (by simp)]
    · rw [lk_cons_ne e]
      simp only [dropI] at ih
      rw [ih]
      have : k ≠ i := fun h => e h.symm
      simp [this]

theorem tk1_vr {ρ : Env} {O O' : Nat → Prop} {w : World} (hk0 : Keeps O w O' w) {is : List Nat} {y : AV} (hy : tkOk is.length y = true) {v : Value} (h : VR ρ O w (tk1 is y) v) : VR (envT ρ is) O' w y v := by
  have gen : ∀ y : AV, pk2 0 y = true → VR ρ O w y v → VR (envT ρ is) O' w y v := by
    intro y hy h
    have h1 := rp2_vr (ρ := ρ) (ρ' := fun _ => none) (m := []) (fun k => rfl) hy (by rw [rp2_nil]; exact h)
    exact h1.keep (fun i v h => by cases h) hk0
  cases y with
  | own id =>
    cases id with
    | par k => exact gen _ hy (by simpa [tk1] using h)
    | loc k =>
      have hk : k < is.length := by simpa [tkOk] using hy
      simp only [tk1] at h
      cases h with
      | own _ _ h h1 => exact .own _ _ (by simp only [envT, List.getElem?_eq_getElem hk, Option.bind_some]; rw [← h]; simp [hk]) h1
  | _ => exact gen _ (by simpa [tkOk] using hy) (by simpa [tk1] using h)

section
variable {P : Program} {l rest : List Oper} {Q : Exit → St → Prop} {n d clk : Nat} {T : List (Nat × AV)} {H : List (Nat × Option Blk)} {Hp : List Blk} {x : Operand} {args : Array Operand} {tys : Array TypeId} {ty : TypeId} {pos : String} {aft : Array Edge} {g : Option (Nat × Bool)}

/-- Behind a call that was given the rows is. -/
theorem call_coreT {c : Ctx} {a : Act} {w w2 : World} {ρ ρ2 : Env} {O O2 : Nat → Prop} (hs : SatAt c ⟨n, T, H, Hp, clk⟩ a w ρ O) {is : List Nat} (hi : ∀ i ∈ is, ∃ b, hk ⟨n, T, H, Hp, clk⟩ (.loc i) = some b)
    {r : AV} {Hr : List Rw} {v : Value} (hf : FinAt (ctxT ρ O w is) r [] Hr v w2 ρ2 O2) : SatAt c ⟨n, T, rowsH clk Hr ++ dropI is H, Hp, clk + Hr.length⟩ a w2 (merge clk ρ ρ2) O2 ∧ Ext ρ (merge clk ρ ρ2) := by
  have hF := hf.F
  have hF0 := hs.F
  have hG : ∀ g, GGb ρ is g → O g ∧ g < w.heap.size ∧ Nw c g := fun g ⟨i, him, hg⟩ => by
    obtain ⟨b, hb⟩ := hi i him
    exact hs.H.own (.loc i) _ g hb hg
  have hext : Ext ρ (merge clk ρ ρ2) := by
    intro i u hu
    cases i with
    | par k => exact hu
    | loc k =>
      by_cases hk' : k < clk
      · simpa [merge, hk'] using hu
      · rw [hs.fresh k (by simp only; omega)] at hu; cases hu
  have hkeep : Keeps O w O2 w2 := ⟨hF.size, fun k hk hO => hF.same k hk (fun h => h) (fun h => hO (hG k h).1), fun k hk => by
    rcases hF.news k hk with h | h | h
    · exact .inl h.1
    · exact .inr h
    · exact .inl (hG k h).1⟩
  have hloc : ∀ k b, hk ⟨n, T, H, Hp, clk⟩ (.loc k) = some b → k < clk := by
    intro k b hb
    rcases Nat.lt_or_ge k clk with h | h
    · exact h
    · have h0 := hs.fresh k h
      have hB := hs.H.ok _ _ hb
      cases b with
      | box => obtain ⟨g, vs, e, _⟩ := hB; rw [h0] at e; cases e
      | row => obtain ⟨g, vs, e, _⟩ := hB; rw [h0] at e; cases e
      | iter => obtain ⟨g, e, _⟩ := hB; rw [h0] at e; cases e
      | mp => obtain ⟨g, e, _⟩ := hB; rw [h0] at e; cases e
      | mpr => obtain ⟨g, e, _⟩ := hB; rw [h0] at e; cases e
      | gen => obtain ⟨v, e, _⟩ := hB; rw [h0] at e; cases e
      | rowc => obtain ⟨g, vs, e, _⟩ := hB; rw [h0] at e; cases e
  have hold : ∀ j b, hk ⟨n, T, H, Hp, clk⟩ j = some b → merge clk ρ ρ2 j = ρ j := by
    intro j b hb
    cases j with
    | par k => rfl
    | loc k => simp [merge, hloc k b hb]
  have hnew : ∀ k, merge clk ρ ρ2 (.loc (clk + k)) = ρ2 (.loc k) := by
    intro k
    have h : ¬ clk + k < clk := by omega
    simp only [merge, if_neg h, Nat.add_sub_cancel_left]
  have hfl : ∀ (k : Nat) rw', Hr[k]? = some rw' → hk (finS [] Hr) (.loc k) = some rw'.blk := by
    intro k rw' hr
    have hlt : k < Hr.length := (List.getElem?_eq_some_iff.1 hr).1
    have e := lk_rowsH [] Hr 0 k
    simp only [List.append_nil] at e
    simp only [finS, hk, e]
    rw [if_pos (by omega)]
    simp [hr]
  have view : ∀ j b, hk ⟨n, T, rowsH clk Hr ++ dropI is H, Hp, clk + Hr.length⟩ j = some b → ((∀ i ∈ is, j ≠ .loc i) ∧ hk ⟨n, T, H, Hp, clk⟩ j = some b) ∨ ∃ (k : Nat) (rw : Rw), j = .loc (clk + k) ∧ Hr[k]? = some rw ∧ b = rw.blk := by
    intro j b hb
    cases j with
    | par k => exact .inl ⟨fun i _ => by simp, hb⟩
    | loc k =>
      simp only [hk, lk_rowsH] at hb
      by_cases hk' : clk ≤ k ∧ k < clk + Hr.length
      · rw [if_pos hk'] at hb
        have hlt : k - clk < Hr.length := by omega
        simp [hlt] at hb
        exact .inr ⟨k - clk, Hr[k - clk], by congr 1; omega, by simp [hlt], hb.symm⟩
      · rw [if_neg hk'] at hb
        rw [lk_dropI] at hb
        by_cases e1 : k ∈ is
        · rw [if_pos e1] at hb
          cases hb
        · rw [if_neg e1] at hb
          exact .inl ⟨fun i him e => by injection e with e; subst e; exact e1 him, hb⟩
  have hnoG : ∀ j b g, (∀ i ∈ is, j ≠ .loc i) → hk ⟨n, T, H, Hp, clk⟩ j = some b → (ρ j).bind vblk = some g → ¬ GGb ρ is g := fun j b g hj hb hg ⟨i, him, he⟩ => by
    obtain ⟨b', hb'⟩ := hi i him
    exact hj i him (hs.H.inj j (.loc i) b _ g hb hb' hg he)
  refine ⟨⟨hs.defers, hs.n, fun k => hs.par k, fun k hk' => ?_, fun t x ht => ?_, ⟨fun j b hb => ?_, fun j b g hb hg => ?_, fun j k bj bk g hbj hbk hgj hgk => ?_⟩, ?_⟩, hext⟩
  · simp only at hk'
    have : merge clk ρ ρ2 (.loc k) = ρ2 (.loc (k - clk)) := by simp [merge]; intro h; omega
    rw [this]
    exact hf.fresh _ (by omega)
  · obtain ⟨u, e1, e2⟩ := hs.T t x ht
    exact ⟨u, e1, e2.keep hext hkeep⟩
  · rcases view j b hb with ⟨e1, e2⟩ | ⟨k, rw', rfl, e2, rfl⟩
    · refine (hs.H.ok j b e2).keep hext hkeep (fun g hg => ?_)
      exact hF.same g (hs.H.own j b g e2 hg).2.1 (fun h => h) (hnoG j b g e1 e2 hg)
    · exact blkC_bok (ρ := ρ2) (i := .loc k) (hnew k).symm rfl (hf.H.ok _ _ (hfl k rw' e2))
  · rcases view j b hb with ⟨e1, e2⟩ | ⟨k, rw', rfl, e2, rfl⟩
    · rw [hold j b e2] at hg
      obtain ⟨f1, f2, f3⟩ := hs.H.own j b g e2 hg
      exact ⟨hF.mono g ⟨f1, hnoG j b g e1 e2 hg⟩, Nat.lt_of_lt_of_le f2 hF.size, f3⟩
    · rw [hnew] at hg
      obtain ⟨f1, f2, f3⟩ := hf.H.own _ _ g (hfl k rw' e2) hg
      refine ⟨f1, f2, ?_⟩
      rcases f3 with f3 | f3
      · exact .inl (Nat.le_trans hF0.size f3)
      · exact (hG g f3).2.2
  · have apart : ∀ j b g (k : Nat) rw', (∀ i ∈ is, j ≠ .loc i) → hk ⟨n, T, H, Hp, clk⟩ j = some b → (ρ j).bind vblk = some g → Hr[k]? = some rw' → (ρ2 (.loc k)).bind vblk = some g → False := by
      intro j b g k rw' hj hb hg hr hgk
      obtain ⟨_, _, f3⟩ := hf.H.own _ _ g (hfl k rw' hr) hgk
      rcases f3 with f3 | f3
      · have h1 := (hs.H.own j b g hb hg).2.1
        have h2 : w.heap.size ≤ g := f3
        omega
      · exact hnoG j b g hj hb hg f3
    rcases view j bj hbj with ⟨p1, p2⟩ | ⟨k1, rw1, rfl, p2, rfl⟩ <;> rcases view k bk hbk with ⟨q1, q2⟩ | ⟨k2, rw2, rfl, q2, rfl⟩
    · rw [hold j bj p2] at hgj
      rw [hold k bk q2] at hgk
      exact hs.H.inj j k bj bk g p2 q2 hgj hgk
    · rw [hold j bj p2] at hgj
      rw [hnew] at hgk
      exact (apart j bj g k2 rw2 p1 p2 hgj q2 hgk).elim
    · rw [hold k bk q2] at hgk
      rw [hnew] at hgj
      exact (apart k bk g k1 rw1 q1 q2 hgk p2 hgj).elim
    · rw [hnew] at hgj hgk
      have := hf.H.inj (.loc k1) (.loc k2) _ _ g (hfl k1 rw1 p2) (hfl k2 rw2 q2) hgj hgk
      injection this with this
      rw [this]
  · refine ⟨hF.os.trans hF0.os, hF.tape.trans hF0.tape, hF.output.trans hF0.output, Nat.le_trans hF0.size hF.size, fun k hk' hkW hkG => ?_, fun k hk' => hF.mono k ⟨hF0.mono k hk', fun e => hF0.nw (hG k e).2.2 hk'⟩, fun k hk' => ?_, hF0.wlt, hF.olt, hF0.olt0, hF0.glt⟩
    · refine (hF.same k (Nat.lt_of_lt_of_le hk' hF0.size) (fun h => h) (fun h => ?_)).trans (hF0.same k hk' hkW hkG)
      rcases (hG k h).2.2 with h | h
      · omega
      · exact hkG h
    · rcases hF.news k hk' with h | h | h
      · exact hF0.news k h.1
      · exact .inr (.inl (Nat.le_trans hF0.size h))
      · exact .inr (hG k h).2.2

/-- A call that is given rows of the call's own, for good. -/
theorem AL.callGn (hw : wantedA l ⟨some d, .call ⟨.value x, args, tys⟩, ty, pos, aft, g⟩ ⟨n, T, H, Hp, clk⟩ = some true) (hd : Nat.blt d n = true) {f : FuncId} {caps as_ ys : List AV} (hx : ev ⟨n, T, H, Hp, clk⟩ x = some (.fn f caps))
    (ha : aevs ⟨n, T, H, Hp, clk⟩ args.toList some = some as_) (is : List Nat) {Hg : List Rw} (hi : is.map (fun i => hk ⟨n, T, H, Hp, clk⟩ (.loc i)) = Hg.map fun r => some r.blk) (hnd : is.Nodup) (hys : ys.map (tk1 is) = as_ ++ caps) (hpk : ys.all (tkOk is.length) = true)
    {R : AV → List Rw → Prop} (hc : ACallsG P f ys Hg fun r Hp' Hr => R r Hr ∧ Hp' = [])
    (h : ∀ r Hr, R r Hr → ok3 Hr.length r = true ∧ AL P l Q rest ⟨n, (d, ren3 (iota clk Hr.length) r) :: T, rowsH clk Hr ++ dropI is H, Hp, clk + Hr.length⟩) :
    AL P l Q (⟨some d, .call ⟨.value x, args, tys⟩, ty, pos, aft, g⟩ :: rest) ⟨n, T, H, Hp, clk⟩ := by
  rintro c a w ⟨ρ, O, hs⟩
  refine wpList_step fun K hK => ?_
  rw [if_pos (wantedA_sound hw ⟨ρ, O, hs⟩)]
  have hxv := ev_sound hs hx
  generalize hq : a.eval x = q at hxv
  have hlen2 : is.length = Hg.length := by have := congrArg List.length hi; simpa using this
  have hblk : ∀ (k : Nat) i, is[k]? = some i → ∃ r, Hg[k]? = some r ∧ hk ⟨n, T, H, Hp, clk⟩ (.loc i) = some r.blk := by
    intro k i hk'
    have e := congrArg (fun l => l[k]?) hi
    simp only [List.getElem?_map, hk', Option.map_some] at e
    rw [eq_comm, Option.map_eq_some_iff] at e
    obtain ⟨r, e1, e2⟩ := e
    exact ⟨r, e1, e2.symm⟩
  have hex : ∀ i ∈ is, ∃ b, hk ⟨n, T, H, Hp, clk⟩ (.loc i) = some b := by
    intro i him
    obtain ⟨k, hk'⟩ := List.getElem?_of_mem him
    obtain ⟨r, _, hr⟩ := hblk k i hk'
    exact ⟨_, hr⟩
  have hG : ∀ g, GGb ρ is g → O g ∧ g < w.heap.size ∧ Nw c g := fun g ⟨i, him, hg⟩ => by
    obtain ⟨b, hb⟩ := hex i him
    exact hs.H.own (.loc i) _ g hb hg
  cases hxv with
  | fn _ _ cvs hcl' hcv =>
    obtain ⟨ha1, ha2⟩ := aevs_vals hs ha
    unfold Oper.wp
    rw [run_call rfl hq hc.1 w]
    rw [Oper.upon_enter]
    have hini : IniG (ctxT ρ O w is) ys Hg (args.map a.eval ++ cvs) (envT ρ is) := by
      have hlen : ys.length = as_.length + caps.length := by
        have := congrArg List.length hys
        simpa using this
      have hlk : ∀ j b, hk (finS [] Hg) j = some b → ∃ (k i : Nat) (r : Rw), j = .loc k ∧ is[k]? = some i ∧ b = r.blk ∧ hk ⟨n, T, H, Hp, clk⟩ (.loc i) = some r.blk := by
        intro j b hb
        cases j with
        | par k => simp [finS, hk] at hb
        | loc k =>
          have e := lk_rowsH [] Hg 0 k
          simp only [List.append_nil] at e
          simp only [finS, hk, e] at hb
          by_cases hk' : k < Hg.length
          · rw [if_pos (by omega)] at hb
            simp [hk'] at hb
            have hki : k < is.length := by omega
            obtain ⟨r, h1, h2⟩ := hblk k is[k] (by simp [hki])
            refine ⟨k, is[k], r, rfl, by simp [hki], ?_, h2⟩
            rw [List.getElem?_eq_getElem hk'] at h1
            injection h1 with h1
            rw [← h1, ← hb]
          · rw [if_neg (by omega)] at hb
            simp [lk] at hb
      have henv : ∀ (k i : Nat), is[k]? = some i → envT ρ is (.loc k) = ρ (.loc i) := fun k i h => by simp [envT, h]
      have hO : ∀ g, ((ctxT ρ O w is).O0 g ∨ (ctxT ρ O w is).G g) → O g := fun g hg => hg.elim (fun h => h.1) (fun h => (hG g h).1)
      refine ⟨by simp [hlen, ha1, hcl'], fun k => rfl, fun k hk' => ?_, fun k y v hy hv => ?_, ⟨fun j b hb => ?_, fun j b g hb hg => ?_, fun j j' bi bj g hbi hbj hgi hgj => ?_⟩, fun k hk => hk.elim, fun k hk => hs.F.olt k hk.1, fun k hk => ⟨fun h => h.2 hk, (hG k hk).2.1⟩, rfl⟩
      · simp only [envT, List.getElem?_eq_none (show is.length ≤ k by omega), Option.bind_none]
      · refine tk1_vr (ρ := ρ) (O := O) (is := is) ⟨Nat.le_refl _, fun _ _ _ => rfl, fun k hk => .inl (hO k hk)⟩ (List.all_eq_true.1 hpk y (List.mem_of_getElem? hy)) ?_
        have e := congrArg (fun l => l[k]?) hys
        simp only [List.getElem?_map, hy, Option.map_some] at e
        rw [Array.getElem?_append] at hv
        simp only [Array.size_map] at hv
        rw [List.getElem?_append] at e
        by_cases hk' : k < args.size
        · rw [if_pos hk'] at hv
          rw [if_pos (by omega)] at e
          exact ha2 k _ v e.symm hv
        · rw [if_neg hk'] at hv
          rw [if_neg (by omega)] at e
          rw [ha1] at e
          exact hcv _ _ v e.symm hv
      · obtain ⟨k, i, r, rfl, e1, rfl, e3⟩ := hlk j b hb
        exact blkC_bok (ρ := ρ) (i := .loc i) (henv k i e1).symm rfl ((hs.H.ok (.loc i) _ e3).keep (Ext.refl ρ) (O' := fun g => (ctxT ρ O w is).O0 g ∨ (ctxT ρ O w is).G g) ⟨Nat.le_refl _, fun _ _ _ => rfl, fun k hk => .inl (hO k hk)⟩ (fun _ _ => rfl))
      · obtain ⟨k, i, r, rfl, e1, rfl, e3⟩ := hlk j b hb
        rw [henv k i e1] at hg
        have hgg : GGb ρ is g := ⟨i, List.mem_of_getElem? e1, hg⟩
        exact ⟨.inr hgg, (hG g hgg).2.1, .inr hgg⟩
      · obtain ⟨k, i, r, rfl, e1, rfl, e3⟩ := hlk j bi hbi
        obtain ⟨k', i', r', rfl, e1', rfl, e3'⟩ := hlk j' bj hbj
        rw [henv k i e1] at hgi
        rw [henv k' i' e1'] at hgj
        have := hs.H.inj (.loc i) (.loc i') _ _ g e3 e3' hgi hgj
        injection this with this
        subst this
        have hk1 : k < is.length := (List.getElem?_eq_some_iff.1 e1).1
        rw [(List.getElem?_inj hk1 hnd).1 (e1.trans e1'.symm)]
    refine (hc.2 _ _ _ hini).mono ?_
    rintro e' w2 ⟨r, Hp', Hr, v, ρ2, O2, ⟨hR, rfl⟩, rfl, hf⟩
    obtain ⟨hok, h⟩ := h r Hr hR
    have hcore := call_coreT hs hex hf
    refine hK _ _ (h c _ w2 ⟨_, _, put_sat hcore.1 (v := v) (x := ren3 (iota clk Hr.length) r) ?_ (by simp [put, hd])⟩)
    refine (ren3_iff (ρ' := ρ2) (fun j hj => ?_) (by rw [iota_length]; exact hok)).2 hf.r
    rw [iota_length] at hj
    rw [iota_get _ _ _ hj]
    simp only [merge]
    rw [if_neg (by omega), Nat.add_sub_cancel_left]

def ACallGO (P : Program) (f : FuncId) (args : List AV) (e sz : Nat) (xs xs' : List (List D)) : Prop := ACallsG P f args [⟨e, sz, xs⟩] fun r Hp' Hr => (r = .own (.loc 0) ∧ Hr = [⟨e, sz, xs'⟩]) ∧ Hp' = []
theorem AL.callGO (hw : wantedA l ⟨some d, .call ⟨.value x, args, tys⟩, ty, pos, aft, g⟩ ⟨n, T, H, Hp, clk⟩ = some true) (hd : Nat.blt d n = true) {f : FuncId} {caps as_ ys : List AV} (hx : ev ⟨n, T, H, Hp, clk⟩ x = some (.fn f caps))
    (ha : aevs ⟨n, T, H, Hp, clk⟩ args.toList some = some as_) {i e sz : Nat} {xs xs' : List (List D)} (hi : hk ⟨n, T, H, Hp, clk⟩ (.loc i) = some (.row e sz xs)) (hys : ys.map (tk1 [i]) = as_ ++ caps) (hpk : ys.all (tkOk 1) = true)
    (hc : ACallGO P f ys e sz xs xs') (h : AL P l Q rest ⟨n, (d, .own (.loc clk)) :: T, (clk, some (.row e sz xs')) :: (i, none) :: H, Hp, clk + 1⟩) :
    AL P l Q (⟨some d, .call ⟨.value x, args, tys⟩, ty, pos, aft, g⟩ :: rest) ⟨n, T, H, Hp, clk⟩ :=
  AL.callGn hw hd hx ha [i] (Hg := [⟨e, sz, xs⟩]) (by simp [hi, Rw.blk]) (by simp) hys hpk (R := fun r Hr => r = .own (.loc 0) ∧ Hr = [⟨e, sz, xs'⟩]) hc (fun r Hr ⟨h1, h2⟩ => by subst h1; subst h2; exact ⟨rfl, h⟩)
end
end Go.AM

/- A machine over pure data: part 40: the rules under short names; their conditions are shown where they stand. -/
set_option linter.unusedVariables false
namespace Go.AM
open Go Go.RowKit

section
variable {P : Program} {l rest : List Oper} {Q : Exit → St → Prop} {n d clk : Nat} {T : List (Nat × AV)} {H : List (Nat × Option Blk)} {Hp : List Blk} {x y lo hi mx : Operand} {args : Array Operand} {tys : Array TypeId} {t t2 ty : TypeId} {pos : String} {aft : Array Edge} {g : Option (Nat × Bool)} {o : Option Tmp} {σ : St} {ts : List (Nat × TI)} {op : Op}

theorem qv1 {a b : Int} (hx : ev σ x = some (i64 a) := by rfl) (hy : ev σ y = some (i64 b) := by rfl) (h0 : -9223372036854775808 ≤ a + b ∧ a + b ≤ 9223372036854775807 := by constructor <;> omega) : VOp P σ ⟨o, .binOp .add t x y t2, ty, pos, aft, g⟩ (i64 (a + b)) := .add hx hy h0
theorem qv2 {a b : Int} (hx : ev σ x = some (i64 a) := by rfl) (hy : ev σ y = some (i64 b) := by rfl) (h0 : -9223372036854775808 ≤ a - b ∧ a - b ≤ 9223372036854775807 := by constructor <;> omega) : VOp P σ ⟨o, .binOp .sub t x y t2, ty, pos, aft, g⟩ (i64 (a - b)) := .sub hx hy h0
theorem qv3 {a : Int} (hx : ev σ x = some (i64 a) := by rfl) (h0 : -9223372036854775807 ≤ a ∧ a ≤ 9223372036854775807 := by constructor <;> omega) : VOp P σ ⟨o, .unOp .neg t x, ty, pos, aft, g⟩ (i64 (-a)) := .neg hx h0
theorem qv4 (hT : TOK P ts) {vx vy : AV} {b : Bool} (hx : ev σ x = some vx := by rfl) (hy : ev σ y = some vy := by rfl) (h : aeq ts t vx vy some = some b := by rfl) (hE : eqOK P t = true := by kernel_rfl) : VOp P σ ⟨o, .binOp .eql t x y t2, ty, pos, aft, g⟩ (bo b) := .eq hT hx hy h hE
theorem qv5 (hT : TOK P ts) {vx vy : AV} {b : Bool} (hx : ev σ x = some vx := by rfl) (hy : ev σ y = some vy := by rfl) (h : aeq ts t vx vy some = some b := by rfl) (hE : eqOK P t = true := by kernel_rfl) : VOp P σ ⟨o, .binOp .neq t x y t2, ty, pos, aft, g⟩ (bo (!b)) := .neq hT hx hy h hE
theorem qv6 {k : IntKind} {a b : Int} (hx : ev σ x = some (.d (.one (.int k a))) := by rfl) (hy : ev σ y = some (.d (.one (.int k b))) := by rfl) : VOp P σ ⟨o, .call ⟨.builtin .max, #[x, y], tys⟩, ty, pos, aft, g⟩ (.d (.one (.int k (if b > a then b else a)))) := .max hx hy
theorem qv7 {k : IntKind} {a b : Int} (hx : ev σ x = some (.d (.one (.int k a))) := by rfl) (hy : ev σ y = some (.d (.one (.int k b))) := by rfl) : VOp P σ ⟨o, .call ⟨.builtin .min, #[x, y], tys⟩, ty, pos, aft, g⟩ (.d (.one (.int k (if b < a then b else a)))) := .min hx hy
theorem qv8 (hT : TOK P ts) {α : Type} {f : α → List D} {xs : List α} {k : IntKind} {i : Nat} {e s b : Nat} {z : List AV} {ie : TI} (hx : ev σ x = some (.d (.row (xs.map f))) := by rfl) (hy : ev σ y = some (.d (.one (.int k (i : Int)))) := by rfl) (ht : lk ts t = some ⟨.slice e, s, b, z⟩ := by rfl) (he : lk ts e = some ie := by rfl) (hf : ∀ x, (f x).length = ie.size := by exact fun _ => rfl)
    (hi : i < xs.length := by first | omega | decide | (simp; done) | (simp; omega)) : VOp P σ ⟨o, .indexAddr t x y, ty, pos, aft, g⟩ (.eptr (f (xs[i]'hi))) := .idxM hT hx hy ht he hf hi
theorem qv9 (hT : TOK P ts) {α : Type} {f : α → List D} {xs : List α} {k : IntKind} {i : Int} {e s b : Nat} {z : List AV} {ie : TI} (hx : ev σ x = some (.d (.row (xs.map f))) := by rfl) (hy : ev σ y = some (.d (.one (.int k i))) := by rfl) (ht : lk ts t = some ⟨.slice e, s, b, z⟩ := by rfl) (he : lk ts e = some ie := by rfl) (hf : ∀ x, (f x).length = ie.size := by exact fun _ => rfl)
    (h0 : 0 ≤ i := by omega) (hi : i.toNat < xs.length := by omega) : VOp P σ ⟨o, .indexAddr t x y, ty, pos, aft, g⟩ (.eptr (f (xs[i.toNat]'hi))) := .idxMI hT hx hy ht he hf h0 hi
theorem qv10 (hT : TOK P ts) {α : Type} {f : α → List D} {xs : List α} {j : Nat} {e s b : Nat} {z : List AV} {ie : TI} (hx : ev σ x = some (.d (.row (xs.map f))) := by rfl) (ht : lk ts t = some ⟨.slice e, s, b, z⟩ := by rfl) (he : lk ts e = some ie := by rfl) (hf : ∀ x, (f x).length = ie.size := by exact fun _ => rfl) (hhi : bnd σ (some hi) 0 = some (j : Int) := by rfl)
    (h4 : j ≤ xs.length := by omega) : VOp P σ ⟨o, .slice t x none (some hi) none, ty, pos, aft, g⟩ (.d (.row ((xs.take j).map f))) := .cutTo hT hx ht he hf hhi h4
theorem qv11 (hT : TOK P ts) {α : Type} {f : α → List D} {xs : List α} {i : Nat} {e s b : Nat} {z : List AV} {ie : TI} (hx : ev σ x = some (.d (.row (xs.map f))) := by rfl) (ht : lk ts t = some ⟨.slice e, s, b, z⟩ := by rfl) (he : lk ts e = some ie := by rfl) (hf : ∀ x, (f x).length = ie.size := by exact fun _ => rfl) (hlo : bnd σ (some lo) 0 = some (i : Int) := by rfl)
    (h4 : i ≤ xs.length := by omega) : VOp P σ ⟨o, .slice t x (some lo) none none, ty, pos, aft, g⟩ (.d (.row ((xs.drop i).map f))) := .cutFrom hT hx ht he hf hlo h4
theorem qv12 (hT : TOK P ts) {α : Type} {f : α → List D} {xs : List α} {j m : Nat} {e s b : Nat} {z : List AV} {ie : TI} (hx : ev σ x = some (.d (.row (xs.map f))) := by rfl) (ht : lk ts t = some ⟨.slice e, s, b, z⟩ := by rfl) (he : lk ts e = some ie := by rfl) (hf : ∀ x, (f x).length = ie.size := by exact fun _ => rfl) (hhi : bnd σ (some hi) 0 = some (j : Int) := by rfl) (hmx : bnd σ (some mx) (j : Int) = some (m : Int) := by rfl)
    (h3 : j ≤ m := by omega) (h4 : m ≤ xs.length := by omega) : VOp P σ ⟨o, .slice t x none (some hi) (some mx), ty, pos, aft, g⟩ (.d (.row ((xs.take j).map f))) := .cutToM hT hx ht he hf hhi hmx h3 h4
theorem qv13 (hT : TOK P ts) {lo hi : Option Operand} {α : Type} {f : α → List D} {xs : List α} {i j : Int} {e s b : Nat} {z : List AV} {ie : TI} (hx : ev σ x = some (.d (.row (xs.map f))) := by rfl) (ht : lk ts t = some ⟨.slice e, s, b, z⟩ := by rfl) (he : lk ts e = some ie := by rfl) (hf : ∀ x, (f x).length = ie.size := by exact fun _ => rfl) (hlo : bnd σ lo 0 = some i := by rfl) (hhi : bnd σ hi (xs.map f).length = some j := by rfl)
    (h0 : 0 ≤ i := by omega) (h1 : i ≤ j := by first | omega | (simp; omega)) (h2 : j ≤ xs.length := by first | omega | (simp; omega)) : VOp P σ ⟨o, .slice t x lo hi none, ty, pos, aft, g⟩ (.d (.row (((xs.take j.toNat).drop i.toNat).map f))) := .cutMI hT hx ht he hf hlo hhi h0 h1 h2
theorem qv14 (hT : TOK P ts) {s : ByteArray} {k1 k2 : IntKind} {i j s1 b1 : Nat} {z : List AV} (hx : ev σ x = some (st s) := by rfl) (hlo : ev σ lo = some (.d (.one (.int k1 (i : Int)))) := by rfl) (hhi : ev σ hi = some (.d (.one (.int k2 (j : Int)))) := by rfl) (ht : lk ts t = some ⟨.str, s1, b1, z⟩ := by rfl)
    (h1 : i ≤ j := by omega) (h2 : j ≤ s.size := by omega) : VOp P σ ⟨o, .slice t x (some lo) (some hi) none, ty, pos, aft, g⟩ (st (s.extract i j)) := .cutS hT hx hlo hhi ht h1 h2
theorem qv15 (hT : TOK P ts) {s : ByteArray} {k1 : IntKind} {i s1 b1 : Nat} {z : List AV} (hx : ev σ x = some (st s) := by rfl) (hlo : ev σ lo = some (.d (.one (.int k1 (i : Int)))) := by rfl) (ht : lk ts t = some ⟨.str, s1, b1, z⟩ := by rfl) (h1 : i ≤ s.size := by omega) : VOp P σ ⟨o, .slice t x (some lo) none none, ty, pos, aft, g⟩ (st (s.extract i s.size)) := .cutSF hT hx hlo ht h1
theorem qv16 (hT : TOK P ts) {s : ByteArray} {k1 : IntKind} {j s1 b1 : Nat} {z : List AV} (hx : ev σ x = some (st s) := by rfl) (hhi : ev σ hi = some (.d (.one (.int k1 (j : Int)))) := by rfl) (ht : lk ts t = some ⟨.str, s1, b1, z⟩ := by rfl) (h1 : j ≤ s.size := by omega) : VOp P σ ⟨o, .slice t x none (some hi) none, ty, pos, aft, g⟩ (st (s.extract 0 j)) := .cutST hT hx hhi ht h1
theorem qv17 {s s' : ByteArray} (hx : ev σ x = some (st s) := by rfl) (hy : ev σ y = some (st s') := by rfl) (hl : s.size + s'.size ≤ 9223372036854775807 := by omega) : VOp P σ ⟨o, .binOp .add t x y t2, ty, pos, aft, g⟩ (st (s ++ s')) := .joinS hx hy hl
theorem qv18 (hT : TOK P ts) {k' k : IntKind} {a : Int} {i1 : TI} {s b : Nat} {z : List AV} (hx : ev σ x = some (.d (.one (.int k' a))) := by rfl) (h1 : lk ts t = some i1 := by rfl) (h2 : lk ts t2 = some ⟨.int k, s, b, z⟩ := by rfl) (h3 : kmin k ≤ a := by simp only [kmin]; omega) (h4 : a ≤ kmax k := by simp only [kmax]; omega) :
    VOp P σ ⟨o, .convert t t2 x, ty, pos, aft, g⟩ (.d (.one (.int k a))) := .conv hT hx h1 h2 (wrap_in h3 h4)
theorem qv19 {k k2 : IntKind} {a : Int} (hx : ev σ x = some (.d (.one (.int k a))) := by rfl) (hy : ev σ y = some (.d (.one (.int k2 1))) := by rfl) : VOp P σ ⟨o, .binOp .shr t x y t2, ty, pos, aft, g⟩ (.d (.one (.int k (a / 2)))) := .shr1 hx hy
theorem qv20 (hT : TOK P ts) {lo hi : Option Operand} {vx : AV} {id : Id} {sz b m e e' s b' : Nat} {xs : List (List D)} {z : List AV} {ie : TI} {i j : Int} (hx : ev σ x = some vx := by rfl) (hsg : seg σ vx = some (id, sz, b, m) := by rfl) (hid : hk σ id = some (.row e sz xs) := by rfl) (ht : lk ts t = some ⟨.slice e', s, b', z⟩ := by rfl) (he : lk ts e' = some ie := by rfl) (hsz : Nat.beq ie.size sz = true := by rfl)
    (hlo : bnd σ lo 0 = some i := by rfl) (hhi : bnd σ hi (m : Nat) = some j := by rfl) (h0 : 0 ≤ i := by first | omega | (simp; omega)) (h1 : i ≤ j := by first | omega | (simp; omega)) (h2 : (b : Int) + j ≤ xs.length := by first | omega | (simp; omega)) : VOp P σ ⟨o, .slice t x lo hi none, ty, pos, aft, g⟩ (.sub id sz (b + i.toNat) (j.toNat - i.toNat) true) := .cutOI hT hx hsg hid ht he hsz hlo hhi h0 h1 h2
theorem qv21 (hT : TOK P ts) {s : ByteArray} {k : IntKind} {i s1 b1 : Nat} {z : List AV} (hx : ev σ x = some (st s) := by rfl) (hy : ev σ y = some (.d (.one (.int k (i : Int)))) := by rfl) (ht : lk ts t = some ⟨.str, s1, b1, z⟩ := by rfl) (h1 : i < s.size := by omega) : VOp P σ ⟨o, .index t x y, ty, pos, aft, g⟩ (.d (.one (.int .u8 (byteAt s i)))) := by
  have := VOp.sidx (P := P) (o := o) (ty := ty) (pos := pos) (aft := aft) (g := g) hT hx hy ht (Int.natCast_nonneg _) (by exact_mod_cast h1)
  simpa using this
theorem qv22 (hT : TOK P ts) {s : ByteArray} {k : IntKind} {i : Int} {s1 b1 : Nat} {z : List AV} (hx : ev σ x = some (st s) := by rfl) (hy : ev σ y = some (.d (.one (.int k i))) := by rfl) (ht : lk ts t = some ⟨.str, s1, b1, z⟩ := by rfl) (h0 : 0 ≤ i := by omega) (h1 : i < s.size := by omega) : VOp P σ ⟨o, .index t x y, ty, pos, aft, g⟩ (.d (.one (.int .u8 (byteAt s i.toNat)))) := .sidx hT hx hy ht h0 h1

theorem qa1 (hT : TOK P ts) {len e s b : Nat} {parts : Array (Nat × Operand)} {z : List AV} {ie : TI} {xs : List (List D)} (h : AL P l Q rest ⟨n, (d, .own (.loc clk)) :: T, (clk, some (.row e ie.size xs)) :: H, Hp, clk + 1⟩)
    (hw : wantedA l ⟨some d, .buildSlice t len parts, ty, pos, aft, g⟩ ⟨n, T, H, Hp, clk⟩ = some true := by rfl) (hd : Nat.blt d n = true := by rfl) (ht : lk ts t = some ⟨.slice e, s, b, z⟩ := by rfl) (he : lk ts e = some ie := by rfl) (hxs : aslice ⟨n, T, H, Hp, clk⟩ ie.size 0 parts.toList some = some xs := by rfl) (hlen : Nat.beq parts.size len = true := by rfl)
    (hsm : Nat.ble (len * ie.size) 16777216 = true := by rfl) (hsl : Nat.ble len 16777216 = true := by rfl) : AL P l Q (⟨some d, .buildSlice t len parts, ty, pos, aft, g⟩ :: rest) ⟨n, T, H, Hp, clk⟩ := .buildSlice hT hw hd ht he hxs hlen hsm hsl h
theorem qa2 (hT : TOK P ts) {id : Id} {e sz e' s b : Nat} {xs : List (List D)} {k : IntKind} {i : Nat} {z : List AV} {ie : TI} (h : AL P l Q rest ⟨n, (d, .rptr id sz i 0) :: T, H, Hp, clk⟩) (hw : wantedA l ⟨some d, .indexAddr t x y, ty, pos, aft, g⟩ ⟨n, T, H, Hp, clk⟩ = some true := by rfl) (hd : Nat.blt d n = true := by rfl)
    (hx : ev ⟨n, T, H, Hp, clk⟩ x = some (.own id) := by rfl) (hid : hk ⟨n, T, H, Hp, clk⟩ id = some (.row e sz xs) := by rfl) (hy : ev ⟨n, T, H, Hp, clk⟩ y = some (.d (.one (.int k (i : Int)))) := by rfl) (ht : lk ts t = some ⟨.slice e', s, b, z⟩ := by rfl) (he : lk ts e' = some ie := by rfl) (hsz : Nat.beq ie.size sz = true := by rfl)
    (h1 : i < xs.length := by first | omega | (simp; omega) | (simp; done) | decide) : AL P l Q (⟨some d, .indexAddr t x y, ty, pos, aft, g⟩ :: rest) ⟨n, T, H, Hp, clk⟩ := .idxON hT hw hd hx hid hy ht he hsz h1 h
theorem qa3 (hT : TOK P ts) {id : Id} {e sz j f : Nat} {α : Type} {fn : α → List D} {xs : List α} {v : AV} (h : AL P l Q rest ⟨n, (d, v) :: T, H, Hp, clk⟩) (hw : wantedA l ⟨some d, .load t x, ty, pos, aft, g⟩ ⟨n, T, H, Hp, clk⟩ = some true := by rfl) (hd : Nat.blt d n = true := by rfl) (hx : ev ⟨n, T, H, Hp, clk⟩ x = some (.rptr id sz j f) := by rfl)
    (hid : hk ⟨n, T, H, Hp, clk⟩ id = some (.row e sz (xs.map fn)) := by rfl) (hj : j < xs.length := by first | omega | (simp; omega)) (hv : (dropK (fn (xs[j]'hj)) f fun r => aload ts ⟨n, T, H, Hp, clk⟩ t (.eptr r)) = some v := by rfl) : AL P l Q (⟨some d, .load t x, ty, pos, aft, g⟩ :: rest) ⟨n, T, H, Hp, clk⟩ := .loadRM hT hw hd hx hid hj hv h
theorem qa4 (hT : TOK P ts) {k1 k2 : IntKind} {a b' : Int} {e s bb m : Nat} {z : List AV} {ie : TI} {ds : List D} (h : AL P l Q rest ⟨n, (d, .own (.loc clk)) :: T, (clk, some (.row e ie.size (List.replicate m ds))) :: H, Hp, clk + 1⟩) (hw : wantedA l ⟨some d, .makeSlice t x y, ty, pos, aft, g⟩ ⟨n, T, H, Hp, clk⟩ = some true := by rfl) (hd : Nat.blt d n = true := by rfl)
    (hx : ev ⟨n, T, H, Hp, clk⟩ x = some (.d (.one (.int k1 a))) := by rfl) (hy : ev ⟨n, T, H, Hp, clk⟩ y = some (.d (.one (.int k2 b'))) := by rfl) (ht : lk ts t = some ⟨.slice e, s, bb, z⟩ := by rfl) (he : lk ts e = some ie := by rfl) (hz : toDs ie.zero some = some ds := by rfl) (hzl : Nat.beq ds.length ie.size = true := by rfl)
    (hm : a = (m : Int) := by rfl) (hab : a ≤ b' := by omega) (hb : (ie.bytes : Int) * b' ≤ 281474976710656 := by simp; omega) (h63 : b' ≤ 9223372036854775807 := by omega) : AL P l Q (⟨some d, .makeSlice t x y, ty, pos, aft, g⟩ :: rest) ⟨n, T, H, Hp, clk⟩ := .makeSlice hT hw hd hx hy ht he hz hzl hm hab hb h63 h
theorem qa5 (hT : TOK P ts) {s : ByteArray} {s1 b1 : Nat} {z : List AV} (h : AL P l Q rest ⟨n, (d, .ptr (.loc clk) 0) :: T, (clk, some (.iter s 0)) :: H, Hp, clk + 1⟩) (hw : wantedA l ⟨some d, .range t x, ty, pos, aft, g⟩ ⟨n, T, H, Hp, clk⟩ = some true := by rfl) (hd : Nat.blt d n = true := by rfl) (hx : ev ⟨n, T, H, Hp, clk⟩ x = some (st s) := by rfl) (ht : lk ts t = some ⟨.str, s1, b1, z⟩ := by rfl) :
    AL P l Q (⟨some d, .range t x, ty, pos, aft, g⟩ :: rest) ⟨n, T, H, Hp, clk⟩ := .range hT hw hd hx ht h
theorem qa6 (hT : TOK P ts) {i e sz : Nat} {xs ys : List (List D)} {vy : AV} {s b : Nat} {z : List AV} {ie : TI} (h : AL P l Q rest ⟨n, (d, .own (.loc clk)) :: T, (clk, some (.row e sz (xs ++ ys))) :: (i, none) :: H, Hp, clk + 1⟩)
    (hw : wantedA l ⟨some d, .call ⟨.builtin .append, #[x, y], #[t, t]⟩, ty, pos, aft, g⟩ ⟨n, T, H, Hp, clk⟩ = some true := by rfl) (hd : Nat.blt d n = true := by rfl) (hx : ev ⟨n, T, H, Hp, clk⟩ x = some (.own (.loc i)) := by rfl) (hi : hk ⟨n, T, H, Hp, clk⟩ (.loc i) = some (.row e sz xs) := by rfl) (hy : ev ⟨n, T, H, Hp, clk⟩ y = some vy := by rfl) (hys : rowOf ⟨n, T, H, Hp, clk⟩ vy = some ys := by rfl)
    (ht : lk ts t = some ⟨.slice e, s, b, z⟩ := by rfl) (he : lk ts e = some ie := by rfl) (hsz : Nat.beq ie.size sz = true := by rfl) (hz0 : Nat.beq ie.zero.length sz = true := by rfl) (hs0 : Nat.blt 0 sz = true := by rfl) (hel : ∀ x ∈ ys, x.length = sz := by first | (intro x hx; obtain ⟨_, _, rfl⟩ := List.mem_map.1 hx; rfl) | (simp; done))
    (hlen : (xs.length + ys.length) * ie.bytes ≤ 140737488355328 := by simp; omega) (hlen2 : xs.length + ys.length ≤ 9223372036854775807 := by simp; omega) : AL P l Q (⟨some d, .call ⟨.builtin .append, #[x, y], #[t, t]⟩, ty, pos, aft, g⟩ :: rest) ⟨n, T, H, Hp, clk⟩ := .append hT hw hd hx hi hy hys ht he hsz hz0 hs0 hel hlen hlen2 h
theorem qa7 {v : AV} (hv : VOp P ⟨n, T, H, Hp, clk⟩ ⟨some d, op, ty, pos, aft, g⟩ v) (h : AL P l Q rest ⟨n, (d, v) :: T, H, Hp, clk⟩) (hw : wantedA l ⟨some d, op, ty, pos, aft, g⟩ ⟨n, T, H, Hp, clk⟩ = some true := by rfl) (hd : Nat.blt d n = true := by rfl) : AL P l Q (⟨some d, op, ty, pos, aft, g⟩ :: rest) ⟨n, T, H, Hp, clk⟩ := .v hw hd hv h
/-- A call that answers one number, Bool or string, or a tuple of these. -/
theorem qc1 {f : FuncId} {caps as_ ys : List AV} {r : AV} (hc : ACallP P f ys r) (h : AL P l Q rest ⟨n, (d, r) :: T, H, Hp, clk⟩) (hw : wantedA l ⟨some d, .call ⟨.value x, args, tys⟩, ty, pos, aft, g⟩ ⟨n, T, H, Hp, clk⟩ = some true := by rfl) (hd : Nat.blt d n = true := by rfl) (hx : ev ⟨n, T, H, Hp, clk⟩ x = some (.fn f caps) := by rfl)
    (ha : aevs ⟨n, T, H, Hp, clk⟩ args.toList some = some as_ := by rfl) (hys : (as_.map (lend ⟨n, T, H, Hp, clk⟩)) ++ caps = ys := by rfl) (hpk : ys.all (pk2 0) = true := by rfl) (hr : scal r = true := by rfl) : AL P l Q (⟨some d, .call ⟨.value x, args, tys⟩, ty, pos, aft, g⟩ :: rest) ⟨n, T, H, Hp, clk⟩ := .callS hw hd hx ha hys hpk hc hr h
/-- A call whose result is pure data. -/
theorem qc2 {f : FuncId} {caps as_ : List AV} {r : AV} (hc : ACallP P f (as_ ++ caps) r) (h : AL P l Q rest ⟨n, (d, r) :: T, H, Hp, clk⟩) (hw : wantedA l ⟨some d, .call ⟨.value x, args, tys⟩, ty, pos, aft, g⟩ ⟨n, T, H, Hp, clk⟩ = some true := by rfl) (hd : Nat.blt d n = true := by rfl) (hx : ev ⟨n, T, H, Hp, clk⟩ x = some (.fn f caps) := by rfl)
    (ha : aevs ⟨n, T, H, Hp, clk⟩ args.toList some = some as_ := by rfl) (hpk : (as_ ++ caps).all (pk2 0) = true := by rfl) : AL P l Q (⟨some d, .call ⟨.value x, args, tys⟩, ty, pos, aft, g⟩ :: rest) ⟨n, T, H, Hp, clk⟩ := .callP hw hd hx ha hpk hc h
end
/-- What is decided, in plain words. -/
theorem DX : (∀ (p : Prop) [Decidable p], (decide p = true) ↔ p) ∧ (∀ (p : Prop) [Decidable p], (decide p = false) ↔ ¬ p) ∧ (∀ b : Bool, (!b) = true ↔ b = false) ∧ (∀ b : Bool, (!b) = false ↔ b = true) ∧ (∀ a b : Bool, (a && b) = true ↔ a = true ∧ b = true) ∧ (∀ a b : Bool, (a || b) = true ↔ a = true ∨ b = true) ∧
    (∀ a b : Bool, (a && b) = false ↔ a = false ∨ b = false) ∧ (∀ a b : Bool, (a || b) = false ↔ a = false ∧ b = false) ∧ ((false = true) ↔ False) ∧ ((true = false) ↔ False) ∧ ((¬ True) ↔ False) ∧ ((¬ False) ↔ True) ∧ (∀ p : Prop, (True ↔ p) ↔ p) ∧ (∀ p : Prop, (p ↔ True) ↔ p) ∧ (∀ p : Prop, (False ↔ p) ↔ ¬ p) ∧ (∀ p : Prop, (p ↔ False) ↔ ¬ p) ∧
    (Int.toNat 0 = 0) ∧ (∀ n : Nat, Int.toNat (n : Int) = n) ∧ (∀ a b : Int, ¬ a < b ↔ b ≤ a) ∧ (∀ a b : Int, ¬ a ≤ b ↔ b < a) := by
  refine ⟨fun p _ => decide_eq_true_iff, fun p _ => decide_eq_false_iff_not, by decide, by decide, by decide, by decide, by decide, by decide, by decide, by decide, by simp, by simp, by simp, by simp, by simp, by simp, rfl, Int.toNat_natCast, fun a b => Int.not_lt, fun a b => Int.not_le⟩
end Go.AM
