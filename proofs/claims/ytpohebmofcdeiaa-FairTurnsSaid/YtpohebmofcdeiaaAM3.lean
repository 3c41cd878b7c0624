/- A machine over pure data: part 3: what it knows of types; the steps that read, and those that make a variable. -/
import Derived.Test.YtpohebmofcdeiaaAM2
import Derived.ChangeKeysEq
import Derived.Laws.Cells
import Derived.KernelRfl
namespace Go.AM
open Go

inductive TK where
  | bool
  | int (k : IntKind)
  | str
  | slice (e : Nat)
  | strct (offs tys : List Nat)
  | ptr (e : Nat)
  | arr (n e : Nat)
  | map (k e : Nat)
  | func
  | iface
  | other
  deriving DecidableEq

def tkOf : TypeDesc → TK
  | .bool => .bool
  | .int k => .int k
  | .string => .str
  | .slice e => .slice e
  | .struct fs => .strct (fs.toList.map (·.offset)) (fs.toList.map (·.type))
  | .pointer e => .ptr e
  | .array n e => .arr n e
  | .map k e => .map k e
  | .func .. => .func
  | .interface _ => .iface
  | _ => .other

structure TI where
  k : TK
  size : Nat
  bytes : Nat
  zero : List AV

def zeqs : Value → AV → Bool
  | .int k n, .d (.one (.int k' n')) => decide (k = k') && decide (n = n')
  | .bool b, .d (.one (.bool b')) => b == b'
  | .string s, .d (.one (.string s')) => decide (s = s')
  | .slice none 0 0, .nilrow => true
  | .pointer none, .d (.one (.pointer none)) => true
  | .nilFunc, .d (.one .nilFunc) => true
  | .nilIface, .d (.one .nilIface) => true
  | .map none, .d (.one (.map none)) => true
  | _, _ => false
def zall : List Value → List AV → Bool
  | [], [] => true
  | v :: r, x :: s => zeqs v x && zall r s
  | _, _ => false

def tcheck (P : Program) (t : Nat) (i : TI) : Bool :=
  match P.info? t, P.underlying t with
  | some ti, some d => decide (ti.size = i.size) && decide (ti.bytes = i.bytes) && decide (tkOf d = i.k) && (match ti.zero with | some z => zall z.cells.toList i.zero | none => false)
  | _, _ => false

def TOK (P : Program) (ts : List (Nat × TI)) : Prop := ts.all (fun p => tcheck P p.1 p.2) = true

theorem lk_mem {α : Type} {t : Nat} {x : α} : ∀ {l : List (Nat × α)}, lk l t = some x → (t, x) ∈ l
  | [], h => by simp [lk] at h
  | (s, v) :: r, h => by
    simp only [lk] at h
    cases hb : Nat.beq s t with
    | true =>
      rw [hb] at h
      simp at h
      have := Nat.eq_of_beq_eq_true hb
      subst this; subst h
      exact List.mem_cons_self
    | false =>
      rw [hb] at h
      exact List.mem_cons_of_mem _ (lk_mem h)

structure TFacts (P : Program) (t : Nat) (i : TI) : Prop where
  info : ∃ ti z, P.info? t = some ti ∧ ti.size = i.size ∧ ti.bytes = i.bytes ∧ ti.zero = some z ∧ zall z.cells.toList i.zero = true
  und : ∃ d, P.underlying t = some d ∧ tkOf d = i.k

theorem TOK.facts {P : Program} {ts : List (Nat × TI)} (h : TOK P ts) {t : Nat} {i : TI} (hi : lk ts t = some i) : TFacts P t i := by
  have h1 := List.all_eq_true.1 h (t, i) (lk_mem hi)
  simp only [tcheck] at h1
  split at h1
  · rename_i ti d h2 h3
    simp only [Bool.and_eq_true, decide_eq_true_eq] at h1
    obtain ⟨⟨⟨h4, h5⟩, h6⟩, h7⟩ := h1
    split at h7
    · rename_i z hz
      exact ⟨⟨ti, z, h2, h4, h5, hz, h7⟩, ⟨d, h3, h6⟩⟩
    · cases h7
  · cases h1

theorem zeqs_sound {v : Value} {x : AV} (h : zeqs v x = true) (ρ : Env) (O : Nat → Prop) (w : World) : VR ρ O w x v ∧ v.oneCell' = true := by
  unfold zeqs at h
  split at h
  · simp at h
    obtain ⟨rfl, rfl⟩ := h
    exact ⟨.d _ _ (.one _ rfl), rfl⟩
  · simp at h
    subst h
    exact ⟨.d _ _ (.one _ rfl), rfl⟩
  · simp at h
    subst h
    exact ⟨.d _ _ (.one _ rfl), rfl⟩
  · exact ⟨.nilrow, rfl⟩
  · exact ⟨.d _ _ (.one _ rfl), rfl⟩
  · exact ⟨.d _ _ (.one _ rfl), rfl⟩
  · exact ⟨.d _ _ (.one _ rfl), rfl⟩
  · exact ⟨.d _ _ (.one _ rfl), rfl⟩
  · cases h

theorem zall_sound : ∀ {vs : List Value} {xs : List AV}, zall vs xs = true → vs.length = xs.length ∧ ∀ (ρ : Env) (O : Nat → Prop) (w : World) (k : Nat) x v, xs[k]? = some x → vs[k]? = some v → VR ρ O w x v ∧ v.oneCell' = true
  | [], [], _ => ⟨rfl, fun ρ O w k x v h => by simp at h⟩
  | v :: r, x :: s, h => by
    simp only [zall, Bool.and_eq_true] at h
    obtain ⟨h1, h2⟩ := zall_sound h.2
    refine ⟨by simp [h1], fun ρ O w k x' v' h3 h4 => ?_⟩
    cases k with
    | zero =>
      simp at h3 h4
      subst h3; subst h4
      exact zeqs_sound h.1 ρ O w
    | succ k => exact h2 ρ O w k x' v' (by simpa using h3) (by simpa using h4)
  | [], _ :: _, h => by simp [zall] at h
  | _ :: _, [], h => by simp [zall] at h

/-! ### steps -/
def AStep (P : Program) (o : Oper) (σ σ' : St) : Prop :=
  ∀ c a w, Sat c σ a w → ∀ (K : Act → World → Prop) (Q : Exit → Act → World → Prop), (∀ a' w', Sat c σ' a' w' → K a' w') → o.wp P a w K Q

def put : St → Option Tmp → AV → Option St
  | ⟨n, T, H, Hp, clk⟩, some d, x => bif Nat.blt d n then some ⟨n, (d, x) :: T, H, Hp, clk⟩ else none
  | σ, none, _ => some σ

theorem put_sat {c : Ctx} {σ σ' : St} {a : Act} {w : World} {ρ : Env} {O : Nat → Prop} (hs : SatAt c σ a w ρ O) {dst : Option Tmp} {x : AV} {v : Value} (hv : VR ρ O w x v)
    (hp : put σ dst x = some σ') : SatAt c σ' (a.put dst v) w ρ O := by
  obtain ⟨n, T, H, Hp, clk⟩ := σ
  cases dst with
  | none =>
    simp only [put] at hp
    cases hp
    exact hs
  | some d =>
    simp only [put] at hp
    cases hb : Nat.blt d n with
    | false => rw [hb] at hp; cases hp
    | true =>
      rw [hb] at hp
      simp at hp
      subst hp
      have hd : d < n := by simpa [Nat.blt_eq] using hb
      have hn : a.tmps.size = n := hs.n
      refine ⟨hs.defers, by simpa [Act.put] using hn, hs.par, hs.fresh, fun t y ht => ?_, hs.H, hs.F⟩
      simp only [lk] at ht
      cases ht' : Nat.beq d t with
      | true =>
        rw [ht'] at ht
        simp at ht
        have := Nat.eq_of_beq_eq_true ht'
        subst this; subst ht
        exact ⟨v, by simp [Act.put, hn, hd], hv⟩
      | false =>
        rw [ht'] at ht
        obtain ⟨u, h1, h2⟩ := hs.T t y ht
        have hne : d ≠ t := fun e => by rw [e] at ht'; simp at ht'
        exact ⟨u, by simp [Act.put, hne, h1], h2⟩

theorem AStep.value {P : Program} {o : Oper} {σ σ' : St} {x : AV} (hp : put σ o.dst x = some σ')
    (h : ∀ c a w ρ O, SatAt c σ a w ρ O → ∃ v, (execOp a.eval o).run P w = .ok (.value v) w ∧ VR ρ O w x v) : AStep P o σ σ' := by
  rintro c a w ⟨ρ, O, hs⟩ K Q hK
  obtain ⟨v, h1, h2⟩ := h c a w ρ O hs
  unfold Oper.wp
  rw [h1]
  exact hK _ _ ⟨ρ, O, put_sat hs h2 hp⟩

def mk : St → Blk → St
  | ⟨n, T, H, Hp, clk⟩, b => ⟨n, T, (clk, some b) :: H, Hp, clk + 1⟩

def upd (ρ : Env) (k : Nat) (v : Value) : Env := fun i => if i = .loc k then some v else ρ i
theorem upd_ext {ρ : Env} {k : Nat} {v : Value} (h : ρ (.loc k) = none) : Ext ρ (upd ρ k v) := by
  intro i u hu
  unfold upd
  split
  · rename_i e; rw [e, h] at hu; cases hu
  · exact hu
theorem upd_self (ρ : Env) (k : Nat) (v : Value) : upd ρ k v (.loc k) = some v := by simp [upd]

theorem lk_cons_ne {α : Type} {s t : Nat} {v : α} {r : List (Nat × α)} (h : s ≠ t) : lk ((s, v) :: r) t = lk r t := by
  simp only [lk]
  cases hb : Nat.beq s t with
  | true => exact absurd (Nat.eq_of_beq_eq_true hb) h
  | false => rfl
theorem lk_cons_self {α : Type} {t : Nat} {v : α} {r : List (Nat × α)} : lk ((t, v) :: r) t = some v := by
  simp [lk]

/-- A new block of the call's own, at the heap's end. -/
theorem mk_sat {c : Ctx} {σ : St} {a : Act} {w w' : World} {ρ : Env} {O : Nat → Prop} (hs : SatAt c σ a w ρ O) (b : Blk) (v : Value) (hv : vblk v = some w.heap.size ∨ vblk v = none)
    (hk0 : Keeps O w (fun k => O k ∨ k = w.heap.size) w') (hsize : w.heap.size < w'.heap.size) (hold : ∀ k, k < w.heap.size → w'.heap[k]? = w.heap[k]?)
    (hos : w'.os = w.os) (htape : w'.tape = w.tape) (hout : w'.output = w.output)
    (hb : BOK (upd ρ σ.clk v) (fun k => O k ∨ k = w.heap.size) w' (.loc σ.clk) b) :
    SatAt c (mk σ b) a w' (upd ρ σ.clk v) (fun k => O k ∨ k = w.heap.size) := by
  obtain ⟨n, T, H, Hp, clk⟩ := σ
  have hf := hs.fresh clk (Nat.le_refl _)
  have he := upd_ext (v := v) hf
  have hlk : ∀ i b', hk (mk ⟨n, T, H, Hp, clk⟩ b) i = some b' → (i = .loc clk ∧ b' = b) ∨ (i ≠ .loc clk ∧ hk ⟨n, T, H, Hp, clk⟩ i = some b') := by
    intro i b' h
    cases i with
    | par k => exact .inr ⟨by simp, h⟩
    | loc k =>
      by_cases hk' : clk = k
      · subst hk'
        simp only [mk, hk, lk_cons_self] at h
        exact .inl ⟨rfl, by cases h; rfl⟩
      · refine .inr ⟨fun e => by injection e with e; exact hk' e.symm, ?_⟩
        simpa only [mk, hk, lk_cons_ne hk'] using h
  have hρ : ∀ i b' g, hk ⟨n, T, H, Hp, clk⟩ i = some b' → i ≠ .loc clk → (upd ρ clk v i).bind vblk = some g → (ρ i).bind vblk = some g := by
    intro i b' g _ h1 h2
    simpa [upd, h1] using h2
  refine ⟨hs.defers, hs.n, ?_, ?_, ?_, ⟨?_, ?_, ?_⟩, ?_⟩
  · intro k
    simpa [upd] using hs.par k
  · intro k hk'
    simp only [mk] at hk'
    have : ρ (.loc k) = none := hs.fresh k (by simp only; omega)
    simp only [upd]
    rw [if_neg (by intro e; injection e with e; omega)]
    exact this
  · intro t x ht
    obtain ⟨u, h1, h2⟩ := hs.T t x (by simpa [mk] using ht)
    exact ⟨u, h1, h2.keep he hk0⟩
  · intro i b' h
    rcases hlk i b' h with ⟨rfl, rfl⟩ | ⟨hne, h⟩
    · exact hb
    · refine (hs.H.ok i b' h).keep he hk0 (fun g hg => hold g ?_)
      exact (hs.H.own i b' g h hg).2.1
  · intro i b' g h hg
    rcases hlk i b' h with ⟨rfl, rfl⟩ | ⟨hne, h⟩
    · rw [upd_self] at hg
      simp only [Option.bind_some] at hg
      rcases hv with hv | hv
      · rw [hv] at hg
        injection hg with hg
        subst hg
        exact ⟨.inr rfl, hsize, hs.F.size⟩
      · rw [hv] at hg; cases hg
    · obtain ⟨h1, h2, h3⟩ := hs.H.own i b' g h (hρ i b' g h hne hg)
      exact ⟨.inl h1, by omega, h3⟩
  · intro i j bi bj g hi hj hgi hgj
    rcases hlk i bi hi with ⟨rfl, hbi⟩ | ⟨hne, hi'⟩ <;> rcases hlk j bj hj with ⟨rfl, hbj⟩ | ⟨hne', hj'⟩
    · rfl
    · exfalso
      have h1 := (hs.H.own j bj g hj' (hρ j bj g hj' hne' hgj)).2.1
      rw [upd_self] at hgi
      simp only [Option.bind_some] at hgi
      rcases hv with hv | hv <;> rw [hv] at hgi
      · injection hgi with e; omega
      · cases hgi
    · exfalso
      have h1 := (hs.H.own i bi g hi' (hρ i bi g hi' hne hgi)).2.1
      rw [upd_self] at hgj
      simp only [Option.bind_some] at hgj
      rcases hv with hv | hv <;> rw [hv] at hgj
      · injection hgj with e; omega
      · cases hgj
    · exact hs.H.inj i j bi bj g hi' hj' (hρ i bi g hi' hne hgi) (hρ j bj g hj' hne' hgj)
  · have hF := hs.F
    exact ⟨hos.trans hF.os, htape.trans hF.tape, hout.trans hF.output, by have := hF.size; omega, fun k hk' hW => (hold k (by have := hF.size; omega)).trans (hF.same k hk' hW),
      fun k hk' => .inl (hF.mono k hk'), fun k hk' => by
        rcases hk' with hk' | hk'
        · exact hF.news k hk'
        · exact .inr (by rw [hk']; exact hF.size), hF.wlt, fun k hk' => by
        rcases hk' with hk' | hk'
        · have := hF.olt k hk'; omega
        · omega, hF.olt0⟩

end Go.AM
