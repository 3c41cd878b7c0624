/- A machine over pure data: part 20: a row written no more, wherever it is told; a row's element written; a row asked for nil. -/
import Derived.Test.YtpohebmofcdeiaaAM19
namespace Go.AM
open Go Go.RowKit

/-! ### a row written no more -/
def fz1 {β : Type} (i s0 : Nat) (xs : List (List D)) (x : AV) (k : AV → Option β) : Option β :=
  match x with
  | .own (.loc j) => bif Nat.beq j i then k (.d (.row xs)) else k (.own (.loc j))
  | .sub (.loc j) sz lo n full => bif Nat.beq j i then bif Nat.beq sz s0 then k (.d (.row ((xs.take (lo + n)).drop lo))) else k .junk else k (.sub (.loc j) sz lo n full)
  | y => k y
def fzL {β : Type} (i s0 : Nat) (xs : List (List D)) : List AV → (List AV → Option β) → Option β
  | [], k => k []
  | x :: r, k => fz1 i s0 xs x fun y => fzL i s0 xs r fun l => k (y :: l)
def fz2 {β : Type} (i s0 : Nat) (xs : List (List D)) (x : AV) (k : AV → Option β) : Option β :=
  match x with
  | .agg l => fzL i s0 xs l fun l' => k (.agg l')
  | .tup l => fzL i s0 xs l fun l' => k (.tup l')
  | y => fz1 i s0 xs y k
def fzT {β : Type} (i s0 : Nat) (xs : List (List D)) : List (Nat × AV) → (List (Nat × AV) → Option β) → Option β
  | [], k => k []
  | (s, x) :: r, k => fz2 i s0 xs x fun y => fzT i s0 xs r fun l => k ((s, y) :: l)
def fzH {β : Type} (i s0 : Nat) (xs : List (List D)) : List (Nat × Option Blk) → (List (Nat × Option Blk) → Option β) → Option β
  | [], k => k []
  | (s, b) :: r, k => bif Nat.beq s i then fzH i s0 xs r fun l => k ((s, none) :: l) else match b with
    | some (.box e cells) => fzL i s0 xs cells fun cs => fzH i s0 xs r fun l => k ((s, some (.box e cs)) :: l)
    | b => fzH i s0 xs r fun l => k ((s, b) :: l)

section
variable {ρ : Env} {O O' : Nat → Prop} {w : World} {i s0 : Nat} {xs : List (List D)}
/-- What is told of a row may be told of it as data. -/
def FzOK (ρ : Env) (O O' : Nat → Prop) (w : World) (i s0 : Nat) (xs : List (List D)) : Prop := Keeps O w O' w ∧ (∀ v, ρ (.loc i) = some v → Reads O' w (.row xs) v) ∧ ∀ x ∈ xs, x.length = s0

theorem sub_reads {ρ : Env} {O O' : Nat → Prop} {w : World} {i sz lo n : Nat} {full : Bool} {xs : List (List D)} {v : Value} (hf : FzOK ρ O O' w i sz xs) (hv : VR ρ O w (.sub (.loc i) sz lo n full) v) : Reads O' w (.row ((xs.take (lo + n)).drop lo)) v := by
  cases hv with
  | sub _ _ _ _ _ g L C c off h h1 h2 h3 h4 h5 =>
    have hr := hf.2.1 _ h
    obtain ⟨A, c', e1, e2, _⟩ := hr.slice
    injection e1 with e1 e3 e4
    subst e3; subst e4
    have hcut := hr.cut hf.2.2 (i := lo) (j := lo + n) (m := lo + c) (by omega) h1 (by omega) (by omega)
    rw [show lo + n - lo = n by omega, show lo + c - lo = c by omega] at hcut
    by_cases hc : c = 0
    · have hn : n = 0 := by omega
      subst hn
      have : (xs.take (lo + 0)).drop lo = [] := List.eq_nil_of_length_eq_zero (by simp)
      rw [this]
      exact .none _ _
    · rw [if_neg (by omega)] at hcut
      rw [h5 hc]
      simp only [Option.map_some, add_ptr, Nat.zero_add] at hcut
      exact hcut
  | subN _ _ _ h =>
    have hr := hf.2.1 _ h
    obtain ⟨A, c', e1, e2, _⟩ := hr.slice
    injection e1 with e1 e3 e4
    have : xs = [] := List.eq_nil_of_length_eq_zero e3.symm
    subst this
    exact .none _ _
theorem fz1_spec {β : Type} {r : β} {x : AV} {k : AV → Option β} (h : fz1 i s0 xs x k = some r) : ∃ y, k y = some r ∧ ∀ ρ O O' w v, FzOK ρ O O' w i s0 xs → VR ρ O w x v → VR ρ O' w y v := by
  unfold fz1 at h
  split at h
  · rename_i j
    cases hb : Nat.beq j i with
    | true =>
      rw [hb] at h
      have := Nat.eq_of_beq_eq_true hb
      subst this
      exact ⟨_, h, fun ρ O O' w v hf hv => by cases hv with | own _ _ h _ => exact .d _ _ (hf.2.1 v h)⟩
    | false =>
      rw [hb] at h
      exact ⟨_, h, fun ρ O O' w v hf hv => hv.keep (Ext.refl ρ) hf.1⟩
  · rename_i j sz lo n full
    cases hb : Nat.beq j i with
    | true =>
      rw [hb] at h
      have := Nat.eq_of_beq_eq_true hb
      subst this
      simp only [cond_true] at h
      cases hz : Nat.beq sz s0 with
      | false => rw [hz] at h; exact ⟨_, h, fun ρ O O' w v hf hv => .junk v⟩
      | true =>
        rw [hz] at h
        have := Nat.eq_of_beq_eq_true hz
        subst this
        exact ⟨_, h, fun ρ O O' w v hf hv => .d _ _ (sub_reads hf hv)⟩
    | false =>
      rw [hb] at h
      exact ⟨_, h, fun ρ O O' w v hf hv => hv.keep (Ext.refl ρ) hf.1⟩
  · exact ⟨_, h, fun ρ O O' w v hf hv => hv.keep (Ext.refl ρ) hf.1⟩
theorem fzL_spec {β : Type} {r : β} : ∀ {l : List AV} {k : List AV → Option β}, fzL i s0 xs l k = some r → ∃ l', k l' = some r ∧ l'.length = l.length ∧
    ∀ ρ O O' w, FzOK ρ O O' w i s0 xs → ∀ (n : Nat) y v, l'[n]? = some y → (∀ x, l[n]? = some x → VR ρ O w x v) → VR ρ O' w y v
  | [], k, h => ⟨[], h, rfl, fun ρ O O' w hf n y v hy => by simp at hy⟩
  | x :: l, k, h => by
    simp only [fzL] at h
    obtain ⟨y, h1, h2⟩ := fz1_spec h
    obtain ⟨l', h3, h4, h5⟩ := fzL_spec h1
    refine ⟨y :: l', h3, by simp [h4], fun ρ O O' w hf n z v hz hv => ?_⟩
    cases n with
    | zero => simp at hz; subst hz; exact h2 ρ O O' w v hf (hv x rfl)
    | succ n => exact h5 ρ O O' w hf n z v (by simpa using hz) (fun x hx => hv x (by simpa using hx))
theorem fz2_spec {β : Type} {r : β} {x : AV} {k : AV → Option β} (h : fz2 i s0 xs x k = some r) : ∃ y, k y = some r ∧ ∀ ρ O O' w v, FzOK ρ O O' w i s0 xs → VR ρ O w x v → VR ρ O' w y v := by
  unfold fz2 at h
  split at h
  · obtain ⟨l', h1, h2, h3⟩ := fzL_spec h
    refine ⟨_, h1, fun ρ O O' w v hf hv => ?_⟩
    cases hv with
    | agg _ vs hl hc => exact .agg _ vs (by rw [h2]; exact hl) fun n y v hy hv => h3 ρ O O' w hf n y v hy fun x hx => hc n x v hx hv
  · obtain ⟨l', h1, h2, h3⟩ := fzL_spec h
    refine ⟨_, h1, fun ρ O O' w v hf hv => ?_⟩
    cases hv with
    | tup _ vs hl hc => exact .tup _ vs (by rw [h2]; exact hl) fun n y v hy hv => h3 ρ O O' w hf n y v hy fun x hx => hc n x v hx hv
  · exact fz1_spec h
theorem fzT_spec {β : Type} {r : β} : ∀ {T : List (Nat × AV)} {k : List (Nat × AV) → Option β}, fzT i s0 xs T k = some r → ∃ T', k T' = some r ∧
    ∀ t y, lk T' t = some y → ∃ x, lk T t = some x ∧ ∀ ρ O O' w v, FzOK ρ O O' w i s0 xs → VR ρ O w x v → VR ρ O' w y v
  | [], k, h => ⟨[], h, fun t y hy => by simp [lk] at hy⟩
  | (s, x) :: T, k, h => by
    simp only [fzT] at h
    obtain ⟨y, h1, h2⟩ := fz2_spec h
    obtain ⟨T', h3, h4⟩ := fzT_spec h1
    refine ⟨(s, y) :: T', h3, fun t z hz => ?_⟩
    rcases lk_shadow hz with ⟨rfl, rfl⟩ | ⟨hne, hz⟩
    · exact ⟨x, lk_cons_self .., h2⟩
    · obtain ⟨x', e1, e2⟩ := h4 t z hz
      exact ⟨x', by rw [lk_cons_ne hne]; exact e1, e2⟩
theorem fzH_spec {β : Type} {r : β} : ∀ {H : List (Nat × Option Blk)} {k : List (Nat × Option Blk) → Option β}, fzH i s0 xs H k = some r → ∃ H', k H' = some r ∧
    ∀ t b, lk H' t = some (some b) → t ≠ i ∧ ∃ b0, lk H t = some (some b0) ∧ ∀ ρ O O' w, FzOK ρ O O' w i s0 xs → BOK ρ O w (.loc t) b0 → BOK ρ O' w (.loc t) b := by
  intro H k h
  induction H generalizing k with
  | nil => exact ⟨[], h, fun t b hb => by simp [lk] at hb⟩
  | cons p H ih =>
    obtain ⟨s, b⟩ := p
    simp only [fzH] at h
    have keepB : ∀ (t : Nat) (b : Blk) ρ O O' w, FzOK ρ O O' w i s0 xs → BOK ρ O w (.loc t) b → BOK ρ O' w (.loc t) b := fun t b ρ O O' w hf hb => hb.keep (Ext.refl ρ) hf.1 (fun _ _ => rfl)
    cases hbq : Nat.beq s i with
    | true =>
      rw [hbq] at h
      obtain ⟨H', h1, h2⟩ := ih h
      have hsi := Nat.eq_of_beq_eq_true hbq
      refine ⟨(s, none) :: H', h1, fun t b' hb' => ?_⟩
      rcases lk_shadow hb' with ⟨rfl, e⟩ | ⟨hne, hb'⟩
      · cases e
      · obtain ⟨e1, b0, e2, e3⟩ := h2 t b' hb'
        exact ⟨e1, b0, by rw [lk_cons_ne hne]; exact e2, e3⟩
    | false =>
      rw [hbq] at h
      have hsi : s ≠ i := fun e => by subst e; simp at hbq
      simp only [cond_false] at h
      split at h
      · rename_i e cells
        obtain ⟨cs, h1, h2, h3⟩ := fzL_spec h
        obtain ⟨H', h4, h5⟩ := ih h1
        refine ⟨(s, some (.box e cs)) :: H', h4, fun t b' hb' => ?_⟩
        rcases lk_shadow hb' with ⟨rfl, eb⟩ | ⟨hne, hb'⟩
        · injection eb with eb
          subst eb
          refine ⟨hsi, .box e cells, lk_cons_self .., fun ρ O O' w hf hb => ?_⟩
          obtain ⟨g, vs, b1, b2, b3, b4⟩ := hb
          refine ⟨g, vs, b1, b2, by rw [h2]; exact b3, fun n y v hy hv => ⟨h3 ρ O O' w hf n y v hy fun x hx => (b4 n x v hx hv).1, ?_⟩⟩
          have hn : n < cells.length := by have := (List.getElem?_eq_some_iff.1 hy).1; omega
          exact (b4 n _ v (List.getElem?_eq_getElem hn) hv).2
        · obtain ⟨e1, b0, e2, e3⟩ := h5 t b' hb'
          exact ⟨e1, b0, by rw [lk_cons_ne hne]; exact e2, e3⟩
      · obtain ⟨H', h4, h5⟩ := ih h
        refine ⟨(s, b) :: H', h4, fun t b' hb' => ?_⟩
        rcases lk_shadow hb' with ⟨rfl, eb⟩ | ⟨hne, hb'⟩
        · subst eb
          exact ⟨hsi, b', lk_cons_self .., keepB s b'⟩
        · obtain ⟨e1, b0, e2, e3⟩ := h5 t b' hb'
          exact ⟨e1, b0, by rw [lk_cons_ne hne]; exact e2, e3⟩
end

/-- A row of the call's own is written no more: it is pure data from here on, wherever it is told. -/
theorem Imp.frz (i : Nat) {n clk e sz : Nat} {T T' : List (Nat × AV)} {H H' : List (Nat × Option Blk)} {Hp : List Blk} {xs : List (List D)} (hi : hk ⟨n, T, H, Hp, clk⟩ (.loc i) = some (.row e sz xs))
    (hT : fzT i sz xs T some = some T') (hH : fzH i sz xs H some = some H') : Imp ⟨n, T, H, Hp, clk⟩ ⟨n, T', H', Hp, clk⟩ := by
  rintro c a w ⟨ρ, O, h⟩
  obtain ⟨T1, hT1, hT2⟩ := fzT_spec hT
  cases hT1
  obtain ⟨H1, hH1, hH2⟩ := fzH_spec hH
  cases hH1
  obtain ⟨v, vs, hv, hrest⟩ := h.H.ok (.loc i) _ hi
  have hvO : ∀ g, vblk v = some g → O g ∧ g < w.heap.size ∧ c.w0.heap.size ≤ g := fun g hg => h.H.own (.loc i) _ g hi (by rw [hv]; exact hg)
  have hsub : ∀ k, (O k ∧ vblk v ≠ some k) → O k := fun k hk => hk.1
  have hk0 : Keeps O w (fun k => O k ∧ vblk v ≠ some k) w := ⟨Nat.le_refl _, fun _ _ _ => rfl, fun k hk => .inl hk.1⟩
  have hok : FzOK ρ O (fun k => O k ∧ vblk v ≠ some k) w i sz xs := ⟨hk0, fun u hu => own_reads (h.H.ok (.loc i) _ hi) hu hsub (fun g hg => fun hh => by
    rw [hv] at hu
    injection hu with hu
    exact hh.2 (hu ▸ hg)), hrest.2.1⟩
  have hlk : ∀ j b', hk ⟨n, T', H', Hp, clk⟩ j = some b' → j ≠ .loc i ∧ ∃ b0, hk ⟨n, T, H, Hp, clk⟩ j = some b0 ∧ (BOK ρ O w j b0 → BOK ρ (fun k => O k ∧ vblk v ≠ some k) w j b') := by
    intro j b' hb
    cases j with
    | par k => exact ⟨by simp, b', hb, fun hB => hB.keep (Ext.refl ρ) hk0 (fun _ _ => rfl)⟩
    | loc k =>
      simp only [hk] at hb
      split at hb
      · rename_i b1 hb1
        cases hb
        obtain ⟨e1, b0, e2, e3⟩ := hH2 k b' hb1
        exact ⟨fun e => by injection e with e; exact e1 e, b0, by simp [hk, e2], e3 ρ O _ w hok⟩
      · cases hb
  refine ⟨ρ, fun k => O k ∧ vblk v ≠ some k, h.defers, h.n, h.par, h.fresh, fun t x ht => ?_, ⟨fun j b hb => ?_, fun j b g hb hg => ?_, fun j k bj bk g hj hk' => ?_⟩, ?_⟩
  · obtain ⟨x0, e1, e2⟩ := hT2 t x ht
    obtain ⟨u, e3, e4⟩ := h.T t x0 e1
    exact ⟨u, e3, e2 ρ O _ w u hok e4⟩
  · obtain ⟨h1, b0, h2, h3⟩ := hlk j b hb
    exact h3 (h.H.ok j b0 h2)
  · obtain ⟨h1, b0, h2, h3⟩ := hlk j b hb
    obtain ⟨e1, e2, e3⟩ := h.H.own j b0 g h2 hg
    refine ⟨⟨e1, fun e => h1 ?_⟩, e2, e3⟩
    exact h.H.inj j (.loc i) b0 _ g h2 hi hg (by rw [hv]; exact e)
  · obtain ⟨_, bj0, e1, _⟩ := hlk j bj hj
    obtain ⟨_, bk0, e2, _⟩ := hlk k bk hk'
    exact h.H.inj j k bj0 bk0 g e1 e2
  · have hF := h.F
    exact ⟨hF.os, hF.tape, hF.output, hF.size, hF.same, fun k hk' => ⟨hF.mono k hk', fun e => by have h1 := (hvO k e).2.2; have h2 := hF.olt0 k hk'; omega⟩, fun k hk' => hF.news k hk'.1, hF.wlt, fun k hk' => hF.olt k hk'.1, hF.olt0⟩

theorem AW.frz (i : Nat) {P : Program} {code : Code} {Q : Exit → St → Prop} {n clk e sz : Nat} {T T' : List (Nat × AV)} {H H' : List (Nat × Option Blk)} {Hp : List Blk} {xs : List (List D)} (hi : hk ⟨n, T, H, Hp, clk⟩ (.loc i) = some (.row e sz xs))
    (hT : fzT i sz xs T some = some T') (hH : fzH i sz xs H some = some H') (h : AW P code Q ⟨n, T', H', Hp, clk⟩) : AW P code Q ⟨n, T, H, Hp, clk⟩ := AW.imp (Imp.frz i hi hT hH) h
theorem AL.frz (i : Nat) {P : Program} {l rest : List Oper} {Q : Exit → St → Prop} {n clk e sz : Nat} {T T' : List (Nat × AV)} {H H' : List (Nat × Option Blk)} {Hp : List Blk} {xs : List (List D)} (hi : hk ⟨n, T, H, Hp, clk⟩ (.loc i) = some (.row e sz xs))
    (hT : fzT i sz xs T some = some T') (hH : fzH i sz xs H some = some H') (h : AL P l Q rest ⟨n, T', H', Hp, clk⟩) : AL P l Q rest ⟨n, T, H, Hp, clk⟩ := AL.imp (Imp.frz i hi hT hH) h
end Go.AM
