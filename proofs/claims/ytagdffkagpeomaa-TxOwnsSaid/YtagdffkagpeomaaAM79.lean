/- A machine over pure data: part 79: blocks at the side: what is the call's own, but not told; and pieces of code that leave them as they are. -/
import Derived.Test.YtagdffkagpeomaaAM78
set_option linter.unusedVariables false
set_option linter.unusedSimpArgs false
namespace Go.AM
open Go Go.RowKit

/-- A block at the side: its value, and what it says. -/
structure Sd where
  v : Value
  p : GenP
  tells : ∀ R u o, p.p R u o → u = v
def inS (S : List Sd) (g : Nat) : Prop := ∃ s ∈ S, vblk s.v = some g
structure Side (c : Ctx) (σ : St) (ρ : Env) (O : Nat → Prop) (w : World) (S : List Sd) : Prop where
  ok : ∀ s ∈ S, s.p.p (Reads O w) s.v ((vblk s.v).bind fun g => w.heap[g]?)
  own : ∀ s ∈ S, ∀ g, vblk s.v = some g → O g ∧ g < w.heap.size ∧ Nw c g ∧ ∀ i b, hk σ i = some b → (ρ i).bind vblk ≠ some g
  inj : ∀ (i j : Nat) s t g, S[i]? = some s → S[j]? = some t → vblk s.v = some g → vblk t.v = some g → i = j
theorem Side.nil {c : Ctx} {σ : St} {ρ : Env} {O : Nat → Prop} {w : World} : Side c σ ρ O w [] := ⟨(fun s h => by cases h), (fun s h => by cases h), (fun i j s t g h => by simp at h)⟩
theorem Side.inO {c : Ctx} {σ : St} {ρ : Env} {O : Nat → Prop} {w : World} {S : List Sd} (h : Side c σ ρ O w S) {g : Nat} (hg : inS S g) : O g ∧ g < w.heap.size ∧ Nw c g ∧ ∀ i b, hk σ i = some b → (ρ i).bind vblk ≠ some g := by
  obtain ⟨s, h1, h2⟩ := hg
  exact h.own s h1 g h2
abbrev ctxS (c : Ctx) (O : Nat → Prop) (w : World) (S : List Sd) : Ctx := ⟨c.ρp, fun g => c.O0 g ∨ inS S g, c.W, w, fun g => O g ∧ Nw c g ∧ ¬ inS S g, c.dfr⟩
section
variable {c : Ctx} {σ σ' : St} {a a' : Act} {w w' : World} {ρ ρ' : Env} {O O' : Nat → Prop} {S : List Sd}
theorem side_in (hs : SatAt c σ a w ρ O) (hS : Side c σ ρ O w S) : SatAt (ctxS c O w S) σ a w ρ O := by
  have hF := hs.F
  refine ⟨hs.defers, hs.n, hs.par, hs.fresh, hs.T, ⟨hs.H.ok, fun i b g hb hg => ?_, hs.H.inj⟩, ⟨rfl, rfl, rfl, Nat.le_refl _, fun _ _ _ _ => rfl, fun k hk => ?_, fun k hk => ?_, fun k hk => ?_, hF.olt, fun k hk => ?_, fun k hk => ?_⟩⟩
  · obtain ⟨h1, h2, h3⟩ := hs.H.own i b g hb hg
    refine ⟨h1, h2, ?_⟩
    cases i with
    | par k => exact h3
    | loc k => exact .inr ⟨h1, h3, fun hi => (hS.inO hi).2.2.2 _ b hb hg⟩
  · rcases hk with hk | hk
    · exact hF.mono k hk
    · exact (hS.inO hk).1
  · rcases hF.news k hk with h | h
    · exact .inl (.inl h)
    · by_cases hi : inS S k
      · exact .inl (.inr hi)
      · exact .inr (.inr ⟨hk, h, hi⟩)
  · exact ⟨.inl (hF.wlt k hk).1, hF.olt k (hF.mono k (hF.wlt k hk).1)⟩
  · rcases hk with hk | hk
    · exact hF.olt k (hF.mono k hk)
    · exact (hS.inO hk).2.1
  · obtain ⟨h1, h2, h3⟩ := hk
    refine ⟨fun h => ?_, hF.olt k h1⟩
    rcases h with h | h
    · exact hF.nw h2 h
    · exact h3 h
theorem side_out (hs : SatAt c σ a w ρ O) (hS : Side c σ ρ O w S) (h : SatAt (ctxS c O w S) σ' a' w' ρ' O') : SatAt c σ' a' w' ρ' O' ∧ Side c σ' ρ' O' w' S := by
  have hF := hs.F
  have hG := h.F
  have hnw : ∀ g, Nw (ctxS c O w S) g → Nw c g ∧ ¬ inS S g := fun g hg => by
    rcases hg with hg | hg
    · refine ⟨.inl (Nat.le_trans hF.size hg), fun hi => ?_⟩
      have := (hS.inO hi).2.1
      have hg' : w.heap.size ≤ g := hg
      omega
    · exact ⟨hg.2.1, hg.2.2⟩
  have hsame : ∀ k, k < w.heap.size → ¬ c.W k → ¬ (O k ∧ Nw c k ∧ ¬ inS S k) → w'.heap[k]? = w.heap[k]? := fun k h1 h2 h3 => hG.same k h1 h2 h3
  have hkeep : Keeps O w O' w' := ⟨hG.size, fun k hk hO => hsame k hk (fun hW => hO (hF.mono k (hF.wlt k hW).1)) (fun h => hO h.1), fun k hk => by
    rcases hG.news k hk with h | h | h
    · rcases h with h | h
      · exact .inl (hF.mono k h)
      · exact .inl (hS.inO h).1
    · exact .inr h
    · exact .inl h.1⟩
  refine ⟨⟨h.defers, h.n, h.par, h.fresh, h.T, ⟨h.H.ok, fun i b g hb hg => ?_, h.H.inj⟩, ⟨hG.os.trans hF.os, hG.tape.trans hF.tape, hG.output.trans hF.output, Nat.le_trans hF.size hG.size, fun k hk hW hGk => ?_, fun k hk => hG.mono k (.inl hk), fun k hk => ?_, hF.wlt, hG.olt, hF.olt0, hF.glt⟩⟩, ⟨fun s hs' => ?_, fun s hs' g hg => ?_, hS.inj⟩⟩
  · obtain ⟨h1, h2, h3⟩ := h.H.own i b g hb hg
    refine ⟨h1, h2, ?_⟩
    cases i with
    | par k => exact h3
    | loc k => exact (hnw g h3).1
  · refine (hsame k (Nat.lt_of_lt_of_le hk hF.size) hW (fun h => ?_)).trans (hF.same k hk hW hGk)
    rcases h.2.1 with h | h
    · omega
    · exact hGk h
  · rcases hG.news k hk with h | h
    · rcases h with h | h
      · exact .inl h
      · exact .inr (hS.inO h).2.2.1
    · exact .inr (hnw k h).1
  · have := hS.ok s hs'
    have he : ((vblk s.v).bind fun g => w'.heap[g]?) = (vblk s.v).bind fun g => w.heap[g]? := by
      cases hv : vblk s.v with
      | none => rfl
      | some g =>
        have hi : inS S g := ⟨s, hs', hv⟩
        exact hsame g (hS.inO hi).2.1 (fun hW => hF.wn (hS.inO hi).2.2.1 hW) (fun h => h.2.2 hi)
    rw [he]
    exact s.p.mono _ _ _ _ (fun d u h => h.keep hkeep) this
  · have hi : inS S g := ⟨s, hs', hg⟩
    obtain ⟨h1, h2, h3, _⟩ := hS.inO hi
    refine ⟨hG.mono g (.inr hi), Nat.lt_of_lt_of_le h2 hG.size, h3, fun i b hb hgi => ?_⟩
    have h4 := (h.H.own i b g hb hgi).2.2
    cases i with
    | par k => exact hF.wn h3 h4
    | loc k => exact (hnw g h4).2 hi
end
def ImpS (σ : St) (S : List Sd) (σ' : St) (S' : List Sd) : Prop := ∀ c a w ρ O, SatAt c σ a w ρ O → Side c σ ρ O w S → ∃ ρ' O', SatAt c σ' a w ρ' O' ∧ Side c σ' ρ' O' w S'
theorem ImpS.refl (σ : St) (S : List Sd) : ImpS σ S σ S := fun c a w ρ O h1 h2 => ⟨ρ, O, h1, h2⟩
theorem ImpS.trans {σ1 σ2 σ3 : St} {S1 S2 S3 : List Sd} (h : ImpS σ1 S1 σ2 S2) (k : ImpS σ2 S2 σ3 S3) : ImpS σ1 S1 σ3 S3 := fun c a w ρ O h1 h2 => by
  obtain ⟨ρ', O', h3, h4⟩ := h c a w ρ O h1 h2
  exact k c a w ρ' O' h3 h4
theorem ImpS.of {σ σ' : St} {S : List Sd} (h : Imp σ σ') : ImpS σ S σ' S := fun c a w ρ O h1 h2 => by
  obtain ⟨ρ', O', h3⟩ := h _ _ _ ⟨ρ, O, side_in h1 h2⟩
  exact ⟨ρ', O', side_out h1 h2 h3⟩
/-- A block goes to the side. -/
theorem ImpS.detach {n clk : Nat} {T : List (Nat × AV)} {H : List (Nat × Option Blk)} {Hp : List Blk} {S : List Sd} (i : Nat) (s : Sd) (hi : hk ⟨n, T, H, Hp, clk⟩ (.loc i) = some (.gen s.p)) : ImpS ⟨n, T, H, Hp, clk⟩ S ⟨n, T, (i, none) :: H, Hp, clk⟩ (S ++ [s]) := by
  intro c a w ρ O hs hS
  have view : ∀ j b, hk ⟨n, T, (i, none) :: H, Hp, clk⟩ j = some b → j ≠ .loc i ∧ hk ⟨n, T, H, Hp, clk⟩ j = some b := by
    intro j b h
    cases j with
    | par k => exact ⟨by simp, h⟩
    | loc k =>
      by_cases hk' : i = k
      · subst hk'
        simp only [hk, lk_cons_self] at h
        cases h
      · simp only [hk, lk_cons_ne hk'] at h
        exact ⟨fun e => hk' (by injection e with e; exact e.symm), h⟩
  obtain ⟨v, hv, hp⟩ := hs.H.ok _ _ hi
  have := s.tells _ _ _ hp
  subst this
  refine ⟨ρ, O, ⟨hs.defers, hs.n, hs.par, hs.fresh, hs.T, ⟨fun j b h => hs.H.ok j b (view j b h).2, fun j b g h => hs.H.own j b g (view j b h).2, fun j k bj bk g hj hk' => hs.H.inj j k bj bk g (view j bj hj).2 (view k bk hk').2⟩, hs.F⟩, ⟨fun t ht => ?_, fun t ht g hg => ?_, fun j k s1 s2 g h1 h2 hg1 hg2 => ?_⟩⟩
  · rcases List.mem_append.1 ht with ht | ht
    · exact hS.ok t ht
    · rw [List.mem_singleton.1 ht]
      exact hp
  · rcases List.mem_append.1 ht with ht | ht
    · obtain ⟨h1, h2, h3, h4⟩ := hS.own t ht g hg
      exact ⟨h1, h2, h3, fun j b hb => h4 j b (view j b hb).2⟩
    · rw [List.mem_singleton.1 ht] at hg
      have hgi : (ρ (.loc i)).bind vblk = some g := by rw [hv]; exact hg
      obtain ⟨h1, h2, h3⟩ := hs.H.own (.loc i) _ g hi hgi
      exact ⟨h1, h2, h3, fun j b hb hj => (view j b hb).1 (hs.H.inj j (.loc i) b _ g (view j b hb).2 hi hj hgi)⟩
  · have key : ∀ j s1, (S ++ [s])[j]? = some s1 → (S[j]? = some s1) ∨ (j = S.length ∧ s1 = s) := fun j s1 h => by
      rw [List.getElem?_append] at h
      split at h
      · exact .inl h
      · rename_i hj
        rw [List.getElem?_singleton] at h
        split at h
        · rename_i h0
          cases h
          exact .inr ⟨by omega, rfl⟩
        · cases h
    have hgi : ∀ g, vblk s.v = some g → (ρ (.loc i)).bind vblk = some g := fun g hg => by rw [hv]; exact hg
    rcases key j s1 h1 with q1 | ⟨rfl, rfl⟩ <;> rcases key k s2 h2 with q2 | ⟨rfl, rfl⟩
    · exact hS.inj j k s1 s2 g q1 q2 hg1 hg2
    · exact absurd (hgi g hg2) ((hS.own s1 (List.mem_of_getElem? q1) g hg1).2.2.2 (.loc i) _ hi)
    · exact absurd (hgi g hg1) ((hS.own s2 (List.mem_of_getElem? q2) g hg2).2.2.2 (.loc i) _ hi)
    · rfl
/-- The first block at the side is told again. -/
theorem ImpS.attach {n clk : Nat} {T : List (Nat × AV)} {H : List (Nat × Option Blk)} {Hp : List Blk} {S : List Sd} (s : Sd) : ImpS ⟨n, T, H, Hp, clk⟩ (s :: S) ⟨n, T, (clk, some (.gen s.p)) :: H, Hp, clk + 1⟩ S := by
  intro c a w ρ O hs hS
  have hf := hs.fresh clk (Nat.le_refl _)
  have he := upd_ext (v := s.v) hf
  have hk0 : Keeps O w O w := Keeps.refl O w
  have view : ∀ j b, hk ⟨n, T, (clk, some (.gen s.p)) :: H, Hp, clk + 1⟩ j = some b → (j = .loc clk ∧ b = .gen s.p) ∨ (j ≠ .loc clk ∧ hk ⟨n, T, H, Hp, clk⟩ j = some b) := by
    intro j b h
    cases j with
    | par k => exact .inr ⟨by simp, h⟩
    | loc k =>
      by_cases hk' : clk = k
      · subst hk'
        simp only [hk, lk_cons_self] at h
        exact .inl ⟨rfl, by cases h; rfl⟩
      · simp only [hk, lk_cons_ne hk'] at h
        exact .inr ⟨fun e => hk' (by injection e with e; exact e.symm), h⟩
  have hρ : ∀ j, j ≠ .loc clk → upd ρ clk s.v j = ρ j := fun j hj => by simp [upd, hj]
  have hown := fun g hg => hS.own s List.mem_cons_self g hg
  refine ⟨upd ρ clk s.v, O, ⟨hs.defers, hs.n, fun k => ?_, fun k hk' => ?_, fun t x ht => ?_, ⟨fun j b h => ?_, fun j b g h hg => ?_, fun j k bj bk g hj hk' hgj hgk => ?_⟩, hs.F⟩, ⟨fun t ht => hS.ok t (List.mem_cons_of_mem _ ht), fun t ht g hg => ?_, fun j k s1 s2 g h1 h2 hg1 hg2 => ?_⟩⟩
  · rw [hρ _ (by simp)]
    exact hs.par k
  · simp only at hk'
    rw [hρ _ (by intro e; injection e with e; omega)]
    exact hs.fresh k (by simp only; omega)
  · obtain ⟨u, h1, h2⟩ := hs.T t x ht
    exact ⟨u, h1, h2.keep he hk0⟩
  · rcases view j b h with ⟨rfl, rfl⟩ | ⟨hne, h⟩
    · exact ⟨s.v, upd_self _ _ _, hS.ok s List.mem_cons_self⟩
    · exact (hs.H.ok j b h).keep he hk0 (fun _ _ => rfl)
  · rcases view j b h with ⟨rfl, rfl⟩ | ⟨hne, h⟩
    · rw [upd_self] at hg
      obtain ⟨h1, h2, h3, _⟩ := hown g hg
      exact ⟨h1, h2, h3⟩
    · rw [hρ j hne] at hg
      exact hs.H.own j b g h hg
  · rcases view j bj hj with ⟨rfl, rfl⟩ | ⟨hne, hj⟩ <;> rcases view k bk hk' with ⟨rfl, rfl⟩ | ⟨hne', hk'⟩
    · rfl
    · rw [upd_self] at hgj
      rw [hρ k hne'] at hgk
      exact absurd hgk ((hown g hgj).2.2.2 k bk hk')
    · rw [upd_self] at hgk
      rw [hρ j hne] at hgj
      exact absurd hgj ((hown g hgk).2.2.2 j bj hj)
    · rw [hρ j hne] at hgj
      rw [hρ k hne'] at hgk
      exact hs.H.inj j k bj bk g hj hk' hgj hgk
  · obtain ⟨h1, h2, h3, h4⟩ := hS.own t (List.mem_cons_of_mem _ ht) g hg
    refine ⟨h1, h2, h3, fun j b hb hj => ?_⟩
    rcases view j b hb with ⟨rfl, rfl⟩ | ⟨hne, hb⟩
    · rw [upd_self] at hj
      obtain ⟨q, hq⟩ := List.getElem?_of_mem ht
      have := hS.inj 0 (q + 1) s t g rfl (by simpa using hq) hj hg
      omega
    · rw [hρ j hne] at hj
      exact h4 j b hb hj
  · have := hS.inj (j + 1) (k + 1) s1 s2 g (by simpa using h1) (by simpa using h2) hg1 hg2
    omega
/-- All that is at the side is forgotten. -/
theorem ImpS.drop {σ : St} {S : List Sd} : ImpS σ S σ [] := fun c a w ρ O h1 _ => ⟨ρ, O, h1, .nil⟩

def postS (c : Ctx) (Q : Exit → St → List Sd → Prop) : Exit → Act → World → Prop := fun e a w => ∃ σ S ρ O, Q e σ S ∧ SatAt c σ a w ρ O ∧ Side c σ ρ O w S
def AWS (P : Program) (code : Code) (Q : Exit → St → List Sd → Prop) (σ : St) (S : List Sd) : Prop := ∀ c a w ρ O, SatAt c σ a w ρ O → Side c σ ρ O w S → code.wp P (postS c Q) a w
def thenQS (N : St → List Sd → Prop) (Q : Exit → St → List Sd → Prop) : Exit → St → List Sd → Prop
  | .normal, σ, S => N σ S
  | e, σ, S => Q e σ S
def inBlockQS (id : Nat) (Q : Exit → St → List Sd → Prop) : Exit → St → List Sd → Prop
  | .exit id', σ, S => if id' = id then Q .normal σ S else Q (.exit id') σ S
  | e, σ, S => Q e σ S
section
variable {P : Program} {Q : Exit → St → List Sd → Prop} {σ : St} {S : List Sd} {code x y body : Code}
/-- A piece of code that leaves what is at the side. -/
theorem AWS.of (h : AW P code (fun e σ' => Q e σ' S) σ) : AWS P code Q σ S := by
  intro c a w ρ O hs hS
  refine wp_mono (h _ _ _ ⟨ρ, O, side_in hs hS⟩) ?_
  rintro e a' w' ⟨σ', hq, ρ', O', h'⟩
  obtain ⟨h1, h2⟩ := side_out hs hS h'
  exact ⟨σ', S, ρ', O', hq, h1, h2⟩
theorem AWS.ofS {K : St → List Sd → Prop} (h : ∀ K' : St → Prop, (∀ σ', K σ' S → K' σ') → AW P code (thenQ K' fun e σ' => Q e σ' S) σ) : AWS P code (thenQS K Q) σ S := by
  refine AWS.of ((h (fun σ' => K σ' S) fun _ h => h).mono fun e σ' hq => ?_)
  cases e <;> exact hq
theorem AWS.imp {σ' : St} {S' : List Sd} (hi : ImpS σ S σ' S') (h : AWS P code Q σ' S') : AWS P code Q σ S := fun c a w ρ O h1 h2 => by
  obtain ⟨ρ', O', h3, h4⟩ := hi c a w ρ O h1 h2
  exact h c a w ρ' O' h3 h4
theorem AWS.start {Q' : Exit → St → Prop} (h : AWS P code (fun e σ' _ => Q' e σ') σ []) : AW P code Q' σ := by
  rintro c a w ⟨ρ, O, hs⟩
  refine wp_mono (h c a w ρ O hs .nil) ?_
  rintro e a' w' ⟨σ', S', ρ', O', hq, h1, _⟩
  exact ⟨σ', hq, ρ', O', h1⟩
theorem AWS.seq (h : ∀ K : St → List Sd → Prop, (∀ σ S, AWS P y Q σ S → K σ S) → AWS P x (thenQS K Q) σ S) : AWS P (.seq x y) Q σ S := by
  intro c a w ρ O hs hS
  refine wp_seq (wp_mono (h (AWS P y Q) (fun _ _ q => q) c a w ρ O hs hS) ?_)
  rintro e a' w' ⟨σ', S', ρ', O', hq, hs', hS'⟩
  cases e with
  | normal => exact hq c a' w' ρ' O' hs' hS'
  | exit id => exact ⟨σ', S', ρ', O', hq, hs', hS'⟩
  | goto l => exact ⟨σ', S', ρ', O', hq, hs', hS'⟩
  | ret => exact ⟨σ', S', ρ', O', hq, hs', hS'⟩
  | panic ch => exact ⟨σ', S', ρ', O', hq, hs', hS'⟩
  | outgrown => exact ⟨σ', S', ρ', O', hq, hs', hS'⟩
theorem AWS.block {id : Nat} (h : AWS P x (inBlockQS id Q) σ S) : AWS P (.block id x) Q σ S := by
  intro c a w ρ O hs hS
  refine wp_block (wp_mono (h c a w ρ O hs hS) ?_)
  rintro e a' w' ⟨σ', S', ρ', O', hq, hs', hS'⟩
  cases e with
  | exit id' =>
    simp only [inBlockQS] at hq
    simp only [Exit.inBlock]
    split
    · rename_i h; rw [if_pos h] at hq; exact ⟨σ', S', ρ', O', hq, hs', hS'⟩
    · rename_i h; rw [if_neg h] at hq; exact ⟨σ', S', ρ', O', hq, hs', hS'⟩
  | normal => exact ⟨σ', S', ρ', O', hq, hs', hS'⟩
  | goto l => exact ⟨σ', S', ρ', O', hq, hs', hS'⟩
  | ret => exact ⟨σ', S', ρ', O', hq, hs', hS'⟩
  | panic ch => exact ⟨σ', S', ρ', O', hq, hs', hS'⟩
  | outgrown => exact ⟨σ', S', ρ', O', hq, hs', hS'⟩
theorem AWS.loop {ι : Type} (I : ι → St) (J : ι → List Sd) (Pre : ι → Prop) (μ : ι → Nat) (x0 : ι) (h0 : Pre x0) (hi : ImpS σ S (I x0) (J x0))
    (round : ∀ x, Pre x → ∀ K : St → List Sd → Prop, (∀ σ' S' y, Pre y → μ y < μ x → ImpS σ' S' (I y) (J y) → K σ' S') → AWS P body (thenQS K Q) (I x) (J x)) : AWS P (.loop body) Q σ S := by
  intro c a w ρ O hs hS
  obtain ⟨ρ1, O1, h1, h2⟩ := hi c a w ρ O hs hS
  refine wp_loop_ghost (fun n a w => ∃ x ρ O, Pre x ∧ μ x = n ∧ SatAt c (I x) a w ρ O ∧ Side c (I x) ρ O w (J x)) (μ x0) ⟨x0, ρ1, O1, h0, rfl, h1, h2⟩ ?_
  rintro n a w ⟨x, ρ, O, hp, rfl, hs, hS⟩
  refine wp_mono (round x hp (fun σ' S' => ∃ y, Pre y ∧ μ y < μ x ∧ ImpS σ' S' (I y) (J y)) (fun σ' S' y h1 h2 h3 => ⟨y, h1, h2, h3⟩) c a w ρ O hs hS) ?_
  rintro e a' w' ⟨σ', S', ρ', O', hq, hs', hS'⟩
  cases e with
  | normal =>
    obtain ⟨y, h1, h2, h3⟩ := hq
    obtain ⟨ρ2, O2, h4, h5⟩ := h3 c a' w' ρ' O' hs' hS'
    exact ⟨μ y, h2, y, ρ2, O2, h1, rfl, h4, h5⟩
  | exit id => exact ⟨σ', S', ρ', O', hq, hs', hS'⟩
  | goto l => exact ⟨σ', S', ρ', O', hq, hs', hS'⟩
  | ret => exact ⟨σ', S', ρ', O', hq, hs', hS'⟩
  | panic ch => exact ⟨σ', S', ρ', O', hq, hs', hS'⟩
  | outgrown => exact ⟨σ', S', ρ', O', hq, hs', hS'⟩
end
end Go.AM
