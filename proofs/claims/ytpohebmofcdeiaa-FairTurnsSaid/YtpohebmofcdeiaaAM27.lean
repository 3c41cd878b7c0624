/- A machine over pure data: part 27: regions that draw their order: the walk in the text's order serves every order. -/
import Derived.Test.YtpohebmofcdeiaaAM26
set_option linter.unusedVariables false
namespace Go.AM
open Go Go.RowKit

abbrev slL (e : Ef) : List (Nat × AV) := e.sl.toList
def mD (D : List (List Nat)) (j k : Nat) : Bool := hasN (D.getD j []) k

/-- What is known where operation j runs: what those have done that come ahead of it in every order. -/
def pre (n : Nat) (T0 : List (Nat × AV)) (H0 : List (Nat × Option Blk)) (Hp : List Blk) (top : Nat) (D HT HH : List (List Nat)) (j : Nat) (R : List (Nat × Ef)) : St :=
  ⟨n, fil (HT.getD j []) (sel (mD D j) slL R T0), fil (HH.getD j []) (sel (mD D j) Ef.bl R H0), Hp, top⟩
def stR (n : Nat) (T0 : List (Nat × AV)) (H0 : List (Nat × Option Blk)) (Hp : List Blk) (top : Nat) (S : Nat → Bool) (R : List (Nat × Ef)) : St :=
  ⟨n, sel S slL R T0, sel S Ef.bl R H0, Hp, top⟩

def hasP : List (Nat × Nat) → Nat → Nat → Bool
  | [], _, _ => false
  | (a, b) :: r, j, i => bif Nat.beq a j && Nat.beq b i then true else hasP r j i
theorem hasP_iff {j i : Nat} : ∀ {M : List (Nat × Nat)}, hasP M j i = true ↔ (j, i) ∈ M
  | [] => by simp [hasP]
  | (a, b) :: r => by
    simp only [hasP, List.mem_cons]
    cases ha : Nat.beq a j with
    | true =>
      have ha := Nat.eq_of_beq_eq_true ha
      subst ha
      cases hb : Nat.beq b i with
      | true => simp [(Nat.eq_of_beq_eq_true hb).symm]
      | false =>
        have : ¬ i = b := fun e => by subst e; simp at hb
        simp [hasP_iff (M := r), this]
    | false =>
      have : ¬ j = a := fun e => by subst e; simp at ha
      simp [hasP_iff (M := r), this]

/-- Its blocks are its own new one, or those that it is told to write. -/
def keyE (clk : Nat) (M : List (Nat × Nat)) (j : Nat) (o : Oper) (e : Ef) : Bool :=
  (match e.sl with
    | some (d, _) => match o.dst with
      | some d' => Nat.beq d d'
      | none => false
    | none => true) && e.bl.all fun x => Nat.beq x.1 (clk + j) || hasP M j x.1
/-- Which blocks what it tells may name. -/
def okP (clk : Nat) (D : List (List Nat)) (j k : Nat) : Bool := Nat.blt k clk || (Nat.ble clk k && (Nat.beq (k - clk) j || mD D j (k - clk)))
def okE (clk : Nat) (D : List (List Nat)) (j : Nat) (e : Ef) : Bool :=
  (match e.sl with
    | some (_, v) => id2 (okP clk D j) v
    | none => true) && e.bl.all fun x => match x.2 with
      | some b => idB (okP clk D j) b
      | none => true

inductive AR (P : Program) (l : List Oper) (Q : Exit → St → Prop) (n : Nat) (T0 : List (Nat × AV)) (H0 : List (Nat × Option Blk)) (Hp : List Blk) (clk top : Nat) (D HT HH : List (List Nat)) (M : List (Nat × Nat)) : Nat → List Oper → List (Nat × Ef) → Prop
  | nil {j R} (h : Q .normal (stR n T0 H0 Hp top (fun _ => true) R)) : AR P l Q n T0 H0 Hp clk top D HT HH M j [] R
  | cons {j R o rest e} (hs : OSp P l (clk + j) o (pre n T0 H0 Hp top D HT HH j R) e) (hk : keyE clk M j o e = true) (ho : okE clk D j e = true)
      (h : AR P l Q n T0 H0 Hp clk top D HT HH M (j + 1) rest ((j, e) :: R)) : AR P l Q n T0 H0 Hp clk top D HT HH M j (o :: rest) R

def dirs (o : Oper) : List Nat := (o.after.toList.filter (Region.binds .any)).map (·.on)
def chkA (l : List Oper) (D : List (List Nat)) (j : Nat) : Bool :=
  match l[j]? with
  | none => true
  | some o => (dirs o).all (fun k => Nat.blt k j) && (D.getD j []).all fun k => hasN (dirs o) k || (dirs o).any fun m => mD D m k
def dstOf (l : List Oper) (k : Nat) : Option Nat := match l[k]? with
  | some o => o.dst
  | none => none
def chkT (l : List Oper) (D HT : List (List Nat)) (j k : Nat) : Bool :=
  match dstOf l k with
  | none => true
  | some t => Nat.beq j k || ((mD D j k || mD D k j || hasN (HT.getD j []) t) && (match dstOf l j with
    | none => true
    | some t' => !Nat.beq t t' || !Nat.blt j k || mD D k j))
def chkM (clk : Nat) (D HH : List (List Nat)) (M : List (Nat × Nat)) (j : Nat) (p : Nat × Nat) : Bool :=
  (Nat.beq j p.1 || mD D j p.1 || mD D p.1 j || hasN (HH.getD j []) p.2) && (Nat.blt p.2 clk || mD D p.1 (p.2 - clk)) && (!hasP M j p.2 || !Nat.blt j p.1 || mD D p.1 j)
def chkD (D : List (List Nat)) (j : Nat) : Bool := (D.getD j []).all fun m => (D.getD m []).all fun k => mD D j k
def chk (l : List Oper) (clk : Nat) (D HT HH : List (List Nat)) (M : List (Nat × Nat)) : Bool :=
  (List.range l.length).all fun j => chkA l D j && chkD D j && (List.range l.length).all (fun k => chkT l D HT j k) && M.all (fun p => Nat.blt p.1 l.length && chkM clk D HH M j p)
def base (clk : Nat) (T0 : List (Nat × AV)) (H0 : List (Nat × Option Blk)) : Bool :=
  T0.all (fun p => id2 (fun k => Nat.blt k clk) p.2) && H0.all fun p => match p.2 with
    | some b => Nat.blt p.1 clk && idB (fun k => Nat.blt k clk) b
    | none => true

theorem lk_mem' {α : Type} {l : List (Nat × α)} {t : Nat} {x : α} (h : lk l t = some x) : (t, x) ∈ l := lk_mem h
theorem sel_mem {α : Type} {S : Nat → Bool} {g : Ef → List (Nat × α)} {acc : List (Nat × α)} {t : Nat} {x : α} : ∀ {R : List (Nat × Ef)}, lk (sel S g R acc) t = some x → (∃ k e, (k, e) ∈ R ∧ S k = true ∧ lk (g e) t = some x) ∨ lk acc t = some x
  | [], h => .inr h
  | (k, e) :: R, h => by
    simp only [sel, lk_append] at h
    cases hS : S k with
    | false =>
      rw [hS] at h
      simp only [cond_false, lk, Option.none_or] at h
      rcases sel_mem h with ⟨k', e', h1, h2, h3⟩ | h
      · exact .inl ⟨k', e', List.mem_cons_of_mem _ h1, h2, h3⟩
      · exact .inr h
    | true =>
      rw [hS] at h
      simp only [cond_true] at h
      cases hg : lk (g e) t with
      | some y =>
        rw [hg] at h
        simp at h
        subst h
        exact .inl ⟨k, e, List.mem_cons_self, hS, hg⟩
      | none =>
        rw [hg] at h
        simp only [Option.none_or] at h
        rcases sel_mem h with ⟨k', e', h1, h2, h3⟩ | h
        · exact .inl ⟨k', e', List.mem_cons_of_mem _ h1, h2, h3⟩
        · exact .inr h
theorem sel_congr {α : Type} {S S' : Nat → Bool} {g : Ef → List (Nat × α)} {acc : List (Nat × α)} : ∀ {R : List (Nat × Ef)}, (∀ k e, (k, e) ∈ R → S k = S' k) → sel S g R acc = sel S' g R acc
  | [], _ => rfl
  | (k, e) :: R, h => by
    simp only [sel]
    rw [h k e List.mem_cons_self, sel_congr (R := R) (fun k e he => h k e (List.mem_cons_of_mem _ he))]

section
variable {P : Program} {l : List Oper} {Q : Exit → St → Prop} {n clk top : Nat} {T0 : List (Nat × AV)} {H0 : List (Nat × Option Blk)} {Hp : List Blk} {D HT HH : List (List Nat)} {M : List (Nat × Nat)}

structure Good (P : Program) (l : List Oper) (n : Nat) (T0 : List (Nat × AV)) (H0 : List (Nat × Option Blk)) (Hp : List Blk) (clk top : Nat) (D HT HH : List (List Nat)) (M : List (Nat × Nat)) (j : Nat) (R : List (Nat × Ef)) : Prop where
  all : ∀ k e, (k, e) ∈ R → ∃ o, l[k]? = some o ∧ OSp P l (clk + k) o (pre n T0 H0 Hp top D HT HH k R) e ∧ keyE clk M k o e = true ∧ okE clk D k e = true
  lt : ∀ k e, (k, e) ∈ R → k < j
  has : ∀ k, k < j → ∃ e, (k, e) ∈ R
  nodup : (R.map Prod.fst).Nodup
  pw : (R.map Prod.fst).Pairwise (· > ·)

theorem mD_lt (hc : ∀ j, j < l.length → chkA l D j = true) {j k : Nat} (hj : j < l.length) (h : mD D j k = true) : k < j := by
  have h1 : ∀ m, m ≤ l.length → ∀ j, j < m → ∀ k, mD D j k = true → k < j := by
    intro m
    induction m with
    | zero => intro _ j hj; omega
    | succ m ih =>
      intro hm j hj k hk
      have h2 := hc j (by omega)
      unfold chkA at h2
      rw [List.getElem?_eq_getElem (show j < l.length by omega)] at h2
      simp only [Bool.and_eq_true, List.all_eq_true] at h2
      have h3 := h2.2 k (hasN_iff.1 hk)
      simp only [Bool.or_eq_true, List.any_eq_true] at h3
      rcases h3 with h3 | ⟨d, h4, h5⟩
      · simpa using h2.1 k (hasN_iff.1 h3)
      · have h6 : d < j := by simpa using h2.1 d h4
        by_cases hd : d < m
        · have := ih (by omega) d hd k h5
          omega
        · omega
  exact h1 l.length (Nat.le_refl _) j hj k h

theorem AR.good (hc : ∀ j, j < l.length → chkA l D j = true) : ∀ {j : Nat} {rest : List Oper} {R : List (Nat × Ef)}, AR P l Q n T0 H0 Hp clk top D HT HH M j rest R → l.drop j = rest → j + rest.length = l.length → Good P l n T0 H0 Hp clk top D HT HH M j R →
    ∃ Rf, Good P l n T0 H0 Hp clk top D HT HH M l.length Rf ∧ Q .normal (stR n T0 H0 Hp top (fun _ => true) Rf) := by
  intro j rest R h
  induction h with
  | nil h =>
    intro hd hlen hg
    rename_i j R
    have hj : j = l.length := by simpa using hlen
    subst hj
    exact ⟨_, hg, h⟩
  | cons hs hk ho h ih =>
    intro hd hlen hg
    rename_i j R o rest e
    simp only [List.length_cons] at hlen
    have hjl : j < l.length := by omega
    have hlj : l[j]? = some o := by
      have h1 := congrArg (fun x => x[0]?) hd
      simp only [List.getElem?_drop, Nat.add_zero, List.getElem?_cons_zero] at h1
      exact h1
    have hpre : ∀ k, k ≤ j → k < l.length → pre n T0 H0 Hp top D HT HH k ((j, e) :: R) = pre n T0 H0 Hp top D HT HH k R := by
      intro k hk' hkl
      have : mD D k j = false := by
        cases hm : mD D k j with
        | false => rfl
        | true => have := mD_lt hc hkl hm; omega
      simp only [pre, sel, this, cond_false, List.nil_append]
    refine ih ?_ (by omega) ⟨fun k e' he => ?_, fun k e' he => ?_, fun k hk' => ?_, ?_, ?_⟩
    · rw [← List.drop_drop, hd]
      rfl
    · rcases List.mem_cons.1 he with he | he
      · cases he
        exact ⟨o, hlj, by rw [hpre j (Nat.le_refl _) hjl]; exact hs, hk, ho⟩
      · obtain ⟨o', h1, h2, h3, h4⟩ := hg.all k e' he
        have := hg.lt k e' he
        exact ⟨o', h1, by rw [hpre k (by omega) (by omega)]; exact h2, h3, h4⟩
    · rcases List.mem_cons.1 he with he | he
      · cases he; omega
      · have := hg.lt k e' he; omega
    · by_cases hkj : k = j
      · subst hkj; exact ⟨e, List.mem_cons_self⟩
      · obtain ⟨e', he'⟩ := hg.has k (by omega)
        exact ⟨e', List.mem_cons_of_mem _ he'⟩
    · simp only [List.map_cons, List.nodup_cons]
      refine ⟨fun hm => ?_, hg.nodup⟩
      obtain ⟨⟨k, e'⟩, h1, h2⟩ := List.mem_map.1 hm
      simp only at h2
      subst h2
      have := hg.lt k e' h1
      omega
    · simp only [List.map_cons, List.pairwise_cons]
      refine ⟨fun k hm => ?_, hg.pw⟩
      obtain ⟨⟨k', e'⟩, h1, h2⟩ := List.mem_map.1 hm
      simp only at h2
      subst h2
      exact hg.lt k' e' h1
end
end Go.AM
