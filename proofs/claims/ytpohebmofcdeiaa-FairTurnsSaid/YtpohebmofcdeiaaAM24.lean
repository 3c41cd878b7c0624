/- A machine over pure data: part 24: regions that draw their order, where operations make rows or write: each operation's effect, told once, whatever the order. -/
import Derived.Test.YtpohebmofcdeiaaAM23
set_option linter.unnecessarySimpa false
set_option linter.unusedVariables false
namespace Go.AM
open Go Go.RowKit

/-- What an operation does to what is known: its slot, and blocks of the call's own. -/
structure Ef where
  sl : Option (Nat × AV)
  bl : List (Nat × Option Blk)

def hasN : List Nat → Nat → Bool
  | [], _ => false
  | x :: r, y => bif Nat.beq x y then true else hasN r y
theorem hasN_iff : ∀ {l : List Nat} {y : Nat}, hasN l y = true ↔ y ∈ l
  | [], y => by simp [hasN]
  | x :: r, y => by
    simp only [hasN, List.mem_cons]
    cases hb : Nat.beq x y with
    | true => simp [(Nat.eq_of_beq_eq_true hb).symm]
    | false =>
      have : y ≠ x := fun e => by subst e; simp at hb
      simp [hasN_iff, this]

/-- The entries of the operations in S, the latest first, above acc. -/
def sel {α : Type} (S : Nat → Bool) (g : Ef → List (Nat × α)) : List (Nat × Ef) → List (Nat × α) → List (Nat × α)
  | [], acc => acc
  | (k, e) :: r, acc => (bif S k then g e else []) ++ sel S g r acc
def fil {α : Type} (h : List Nat) (l : List (Nat × α)) : List (Nat × α) := l.filter fun p => !hasN h p.1

theorem lk_append {α : Type} {l r : List (Nat × α)} {t : Nat} : lk (l ++ r) t = (lk l t).or (lk r t) := by
  induction l with
  | nil => simp [lk]
  | cons p l ih =>
    obtain ⟨s, v⟩ := p
    simp only [List.cons_append, lk]
    cases Nat.beq s t <;> simp [ih]
theorem lk_fil {α : Type} {h : List Nat} {l : List (Nat × α)} {t : Nat} {x : α} (hl : lk (fil h l) t = some x) : t ∉ h ∧ lk l t = some x := by
  induction l with
  | nil => simp [fil, lk] at hl
  | cons p l ih =>
    obtain ⟨s, v⟩ := p
    simp only [fil, List.filter_cons] at hl
    split at hl
    · rename_i hs
      rcases lk_shadow hl with ⟨rfl, rfl⟩ | ⟨hne, hl⟩
      · refine ⟨fun hm => ?_, lk_cons_self ..⟩
        rw [hasN_iff.2 hm] at hs
        cases hs
      · obtain ⟨h1, h2⟩ := ih hl
        exact ⟨h1, by rw [lk_cons_ne hne]; exact h2⟩
    · rename_i hs
      obtain ⟨h1, h2⟩ := ih hl
      refine ⟨h1, ?_⟩
      rw [lk_cons_ne (fun e => ?_)]
      · exact h2
      · subst e
        have : s ∈ h := hasN_iff.1 (by simpa using hs)
        exact h1 this

/-- Selecting more, where what is more has no entry at t, tells the same of t. -/
theorem sel_same {α : Type} {S S' : Nat → Bool} {g : Ef → List (Nat × α)} {acc : List (Nat × α)} {t : Nat} : ∀ {R : List (Nat × Ef)}, (∀ k e, (k, e) ∈ R → S k ≠ S' k → lk (g e) t = none) → lk (sel S g R acc) t = lk (sel S' g R acc) t
  | [], _ => rfl
  | (k, e) :: R, h => by
    simp only [sel, lk_append]
    rw [sel_same (R := R) (fun k e he => h k e (List.mem_cons_of_mem _ he))]
    by_cases hs : S k = S' k
    · rw [hs]
    · have := h k e List.mem_cons_self hs
      cases S k <;> cases S' k <;> simp_all [lk]
/-- One more: as if it were told last, where those told later have no entry at t, or it has none. -/
theorem sel_one {α : Type} {S S' : Nat → Bool} {g : Ef → List (Nat × α)} {acc : List (Nat × α)} {t j : Nat} {ej : Ef} (hj : S j = false) (hj' : S' j = true) (hS : ∀ k, k ≠ j → S' k = S k) : ∀ {R : List (Nat × Ef)}, (R.map Prod.fst).Nodup → (j, ej) ∈ R →
    (∀ k e, (k, e) ∈ R → j < k → S k = true → lk (g e) t = none ∨ lk (g ej) t = none) → (R.map Prod.fst).Pairwise (· > ·) → lk (sel S' g R acc) t = lk (g ej ++ sel S g R acc) t
  | [], _, hm, _, _ => by cases hm
  | (k, e) :: R, hn, hm, hc, hp => by
    simp only [List.map_cons, List.nodup_cons] at hn
    simp only [List.map_cons, List.pairwise_cons] at hp
    rcases List.mem_cons.1 hm with he | hm'
    · cases he
      have hR : lk (sel S' g R acc) t = lk (sel S g R acc) t := sel_same fun k' e' he' hne => by
        have : k' ≠ j := fun e => hn.1 (List.mem_map.2 ⟨(k', e'), he', e⟩)
        exact absurd (hS k' this).symm hne.symm
      simp only [sel, hj, hj', cond_true, cond_false, List.nil_append, lk_append, hR]
    · have hlt : j < k := hp.1 j (List.mem_map.2 ⟨(j, ej), hm', rfl⟩)
      have ih := sel_one hj hj' hS hn.2 hm' (fun k e he => hc k e (List.mem_cons_of_mem _ he)) hp.2 (R := R) (acc := acc)
      have hk : k ≠ j := by omega
      simp only [sel, hS k hk]
      cases hs : S k with
      | false => simpa [hs] using ih
      | true =>
        simp only [cond_true]
        rw [lk_append, ih, lk_append, lk_append, lk_append]
        rcases hc k e List.mem_cons_self hlt hs with h | h
        · rw [h]; simp
        · rw [h]; simp

def push : Ef → St → St
  | e, ⟨n, T, H, Hp, clk⟩ => ⟨n, e.sl.toList ++ T, e.bl ++ H, Hp, clk⟩

/-- Whatever σ tells, σ' tells. -/
structure Le (σ σ' : St) : Prop where
  n : σ.n = σ'.n
  Hp : σ.Hp = σ'.Hp
  clk : σ.clk = σ'.clk
  T : ∀ t x, lk σ.T t = some x → lk σ'.T t = some x
  H : ∀ k b, lk σ.H k = some (some b) → lk σ'.H k = some (some b)

theorem Le.hk {σ σ' : St} (h : Le σ σ') {i : Id} {b : Blk} (hb : hk σ i = some b) : hk σ' i = some b := by
  cases i with
  | par k =>
    simp only [Go.AM.hk] at hb ⊢
    rw [← h.Hp]
    exact hb
  | loc k =>
    simp only [Go.AM.hk] at hb ⊢
    split at hb
    · rename_i b' hb'
      rw [h.H k _ hb']
      exact hb
    · cases hb
theorem SatAt.le {σ σ' : St} (h : Le σ σ') {c : Ctx} {a : Act} {w : World} {ρ : Env} {O : Nat → Prop} (hs : SatAt c σ' a w ρ O) : SatAt c σ a w ρ O :=
  ⟨hs.defers, by rw [h.n]; exact hs.n, hs.par, fun k hk => hs.fresh k (by rw [← h.clk]; exact hk), fun t x ht => hs.T t x (h.T t x ht), ⟨fun i b hb => hs.H.ok i b (h.hk hb), fun i b g hb => hs.H.own i b g (h.hk hb), fun i j bi bj g hi hj => hs.H.inj i j bi bj g (h.hk hi) (h.hk hj)⟩, hs.F⟩
theorem Le.imp {σ σ' : St} (h : Le σ σ') : Imp σ' σ := fun _ _ _ ⟨ρ, O, hs⟩ => ⟨ρ, O, hs.le h⟩
theorem ev_le {σ σ' : St} (h : Le σ σ') {x : Operand} {v : AV} (hx : ev σ x = some v) : ev σ' x = some v := by
  cases x with
  | tmp t => exact h.T t v hx
  | _ => exact hx
theorem aevs_le {β : Type} {σ σ' : St} (h : Le σ σ') {r : β} : ∀ {xs : List Operand} {k : List AV → Option β}, aevs σ xs k = some r → aevs σ' xs k = some r
  | [], k, hk => hk
  | x :: xs, k, hk => by
    simp only [aevs] at hk ⊢
    split at hk
    · rename_i v hv
      rw [ev_le h hv]
      exact aevs_le h hk
    · cases hk
theorem nthK_mono {α β : Type} {r : β} {k k' : α → Option β} (hkk : ∀ x, k x = some r → k' x = some r) : ∀ {l : List α} {n : Nat}, nthK l n k = some r → nthK l n k' = some r
  | x :: l, 0, h => hkk _ (by simpa [nthK] using h)
  | x :: l, n + 1, h => by
    simp only [nthK] at h ⊢
    exact nthK_mono hkk h
  | [], n, h => by simp [nthK] at h
theorem wantedA_le {l : List Oper} {o : Oper} {σ σ' : St} (h : Le σ σ') {b : Bool} (hw : wantedA l o σ = some b) : wantedA l o σ' = some b := by
  unfold wantedA at hw ⊢
  split at hw
  · exact hw
  · rename_i j want hg
    refine nthK_mono (fun oj hoj => ?_) hw
    cases hd : oj.dst with
    | none => simp [hd] at hoj
    | some d =>
      simp only [hd] at hoj ⊢
      cases hl : lk σ.T d with
      | none => simp [hl] at hoj
      | some v =>
        rw [h.T d v hl]
        rw [hl] at hoj
        exact hoj
theorem rowOf_le {σ σ' : St} (h : Le σ σ') {x : AV} {xs : List (List D)} (hx : rowOf σ x = some xs) : rowOf σ' x = some xs := by
  cases x with
  | own i =>
    simp only [rowOf] at hx ⊢
    split at hx
    · rename_i e sz ys hb
      rw [h.hk hb]
      exact hx
    · cases hx
  | d y => cases y <;> simpa [rowOf] using hx
  | _ => simpa [rowOf] using hx
theorem aslice_le {β : Type} {σ σ' : St} (h : Le σ σ') {sz : Nat} {r : β} : ∀ {l : List (Nat × Operand)} {j : Nat} {k : List (List D) → Option β}, aslice σ sz j l k = some r → aslice σ' sz j l k = some r
  | [], j, k, hk => hk
  | (i, x) :: l, j, k, hk => by
    simp only [aslice] at hk ⊢
    cases hb : Nat.beq i j with
    | false => rw [hb] at hk; cases hk
    | true =>
      rw [hb] at hk
      simp only [cond_true] at hk ⊢
      cases hx : ev σ x with
      | none => simp [hx] at hk
      | some v =>
        rw [ev_le h hx]
        rw [hx] at hk
        cases v <;> simp only at hk ⊢ <;>
          (obtain ⟨ds, h1, h2⟩ := toDs_spec hk
           have hmono : ∀ (ys : List AV) (k1 k2 : List D → Option β), (∀ ds, k1 ds = some r → k2 ds = some r) → toDs ys k1 = some r → toDs ys k2 = some r := by
             intro ys
             induction ys with
             | nil => exact fun k1 k2 h3 h4 => h3 _ h4
             | cons y ys ih =>
               intro k1 k2 h3 h4
               simp only [toDs] at h4 ⊢
               split at h4
               · exact ih _ _ (fun ds h5 => h3 _ h5) h4
               · exact ih _ _ (fun ds h5 => h3 _ h5) h4
               · cases h4
           refine hmono _ _ _ (fun ds h5 => ?_) hk
           cases hq : Nat.beq ds.length sz with
           | false => rw [hq] at h5; cases h5
           | true =>
             rw [hq] at h5
             simp only [cond_true] at h5 ⊢
             exact aslice_le h h5)
theorem lend_le {σ σ' : St} (h : Le σ σ') {x : AV} (hx : pk2 0 (lend σ x) = true) : lend σ' x = lend σ x := by
  cases x with
  | own i =>
    simp only [lend] at hx ⊢
    split at hx
    · rename_i e sz xs hb
      rw [h.hk hb]
    · cases i <;> simp [pk2, pk1, pkI] at hx
  | _ => rfl
theorem lendL_le {σ σ' : St} (h : Le σ σ') {as_ caps ys : List AV} (hys : as_.map (lend σ) ++ caps = ys) (hpk : ys.all (pk2 0) = true) : as_.map (lend σ') ++ caps = ys := by
  subst hys
  congr 1
  refine List.map_congr_left fun x hx => lend_le h ?_
  exact List.all_eq_true.1 hpk _ (List.mem_append_left _ (List.mem_map_of_mem hx))
theorem VOp.le {P : Program} {σ σ' : St} (h : Le σ σ') {o : Oper} {v : AV} (hv : VOp P σ o v) : VOp P σ' o v := VOp.mk fun c a w ρ O hs => hv.h c a w ρ O (hs.le h)
end Go.AM
