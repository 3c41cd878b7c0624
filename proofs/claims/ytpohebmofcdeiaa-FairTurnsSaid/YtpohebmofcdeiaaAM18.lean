/- A machine over pure data: part 18: what a law's argument may be, as pure data. -/
import Derived.Test.YtpohebmofcdeiaaAM17
import Derived.OpenShut
import Derived.ShutString
import Derived.DataReads
import Derived.ChangeArms
namespace Go.AM
open Go Go.RowKit

/-- What an argument of a type may be: its cells. -/
inductive DT (ts : List (Nat × TI)) : Nat → List D → Prop
  | bool {t s b : Nat} {z : List AV} (h : lk ts t = some ⟨.bool, s, b, z⟩) (x : Bool) : DT ts t [.one (.bool x)]
  | int {t s b : Nat} {k : IntKind} {z : List AV} (h : lk ts t = some ⟨.int k, s, b, z⟩) (n : Int) (hn : (Lit.int k n).wf = true) : DT ts t [.one (.int k n)]
  | str {t s b : Nat} {z : List AV} (h : lk ts t = some ⟨.str, s, b, z⟩) (x : ByteArray) (hx : x.size ≤ maxLen) : DT ts t [.one (.string x)]
  | slice {t e s b : Nat} {z : List AV} {ie : TI} (h : lk ts t = some ⟨.slice e, s, b, z⟩) (he : lk ts e = some ie) (xs : List (List D)) (hl : xs.length ≤ maxLen) (hx : ∀ x ∈ xs, DT ts e x) (hs : ∀ x ∈ xs, x.length = ie.size) : DT ts t [.row xs]
  | strct {t s b : Nat} {offs tys : List Nat} {z : List AV} (h : lk ts t = some ⟨.strct offs tys, s, b, z⟩) (ds : List D) (hl : ds.length = s)
      (hf : ∀ (k o ty : Nat) (i : TI), offs[k]? = some o → tys[k]? = some ty → lk ts ty = some i → DT ts ty ((ds.drop o).take i.size)) : DT ts t ds

/-- A struct's fields lie one behind the other, from acc on; where they end. -/
def lay (ts : List (Nat × TI)) : List Nat → List Nat → Nat → Option Nat
  | [], [], acc => some acc
  | o :: os, t :: tys, acc => bif Nat.beq o acc then match lk ts t with
    | some i => lay ts os tys (acc + i.size)
    | none => none else none
  | _, _, _ => none

theorem lay_open {ts : List (Nat × TI)} {Q : Nat → List D → Prop} {R : D → Value → Prop} {cs : List Value} : ∀ (offs tys : List Nat) (acc s : Nat), lay ts offs tys acc = some s →
    (∀ (k o ty : Nat) (i : TI), offs[k]? = some o → tys[k]? = some ty → lk ts ty = some i → ∃ ds : List D, ds.length = i.size ∧ (∀ (m : Nat) y v, ds[m]? = some y → cs[o + m]? = some v → R y v) ∧ Q ty ds) →
    acc ≤ s ∧ ∃ ds : List D, ds.length = s - acc ∧ (∀ (m : Nat) y v, ds[m]? = some y → cs[acc + m]? = some v → R y v) ∧
      ∀ (k o ty : Nat) (i : TI), offs[k]? = some o → tys[k]? = some ty → lk ts ty = some i → acc ≤ o ∧ Q ty ((ds.drop (o - acc)).take i.size)
  | [], [], acc, s, h, _ => by
    simp only [lay, Option.some.injEq] at h
    subst h
    exact ⟨Nat.le_refl _, [], by simp, fun m y v hy => by simp at hy, fun k o ty i hk => by simp at hk⟩
  | o :: os, t :: tys, acc, s, h, hf => by
    simp only [lay] at h
    cases hb : Nat.beq o acc with
    | false => rw [hb] at h; cases h
    | true =>
      rw [hb] at h
      have ho := Nat.eq_of_beq_eq_true hb
      subst ho
      simp only [cond_true] at h
      split at h
      · rename_i i hi
        obtain ⟨d1, e1, e2, e3⟩ := hf 0 o t i rfl rfl hi
        obtain ⟨hle, d2, f1, f2, f3⟩ := lay_open os tys (o + i.size) s h (fun k o' ty i' h1 h2 h3 => hf (k + 1) o' ty i' h1 h2 h3)
        refine ⟨by omega, d1 ++ d2, by simp; omega, fun m y v hy hv => ?_, fun k o' ty i' h1 h2 h3 => ?_⟩
        · rw [List.getElem?_append] at hy
          split at hy
          · exact e2 m y v hy hv
          · rename_i hm
            refine f2 (m - d1.length) y v hy ?_
            rw [show o + i.size + (m - d1.length) = o + m by omega]
            exact hv
        · cases k with
          | zero =>
            simp at h1 h2
            subst h1; subst h2
            rw [hi] at h3
            cases h3
            refine ⟨Nat.le_refl _, ?_⟩
            have : List.take i.size (List.drop (o - o) (d1 ++ d2)) = d1 := by rw [Nat.sub_self, List.drop_zero, ← e1, List.take_left]
            rw [this]
            exact e3
          | succ k =>
            obtain ⟨g1, g2⟩ := f3 k o' ty i' h1 h2 h3
            refine ⟨by omega, ?_⟩
            have : List.drop (o' - o) (d1 ++ d2) = List.drop (o' - (o + i.size)) d2 := by
              rw [List.drop_append, List.drop_eq_nil_of_le (by omega), List.nil_append]
              congr 1
              omega
            rw [this]
            exact g2
      · cases h
  | [], _ :: _, acc, s, h, _ => by simp [lay] at h
  | _ :: _, [], acc, s, h, _ => by simp [lay] at h

/-- Types whose values are pure data. -/
def opn (ts : List (Nat × TI)) : Nat → Nat → Bool
  | 0, _ => false
  | d + 1, t => match lk ts t with
    | some ⟨.bool, s, _, _⟩ => Nat.beq s 1
    | some ⟨.int _, s, _, _⟩ => Nat.beq s 1
    | some ⟨.str, s, _, _⟩ => Nat.beq s 1
    | some ⟨.slice e, s, _, _⟩ => Nat.beq s 1 && opn ts d e && (match lk ts e with | some i => Nat.blt 0 i.size | none => false)
    | some ⟨.strct offs tys, s, _, _⟩ => tys.all (opn ts d) && decide (lay ts offs tys 0 = some s)
    | _ => false

theorem list_choose {α : Type} {p : Nat → α → Prop} : ∀ (n : Nat), (∀ i, i < n → ∃ y, p i y) → ∃ l : List α, l.length = n ∧ ∀ i y, l[i]? = some y → p i y
  | 0, _ => ⟨[], rfl, fun i y h => by simp at h⟩
  | n + 1, h => by
    obtain ⟨l, h1, h2⟩ := list_choose n (fun i hi => h i (by omega))
    obtain ⟨y, hy⟩ := h n (by omega)
    refine ⟨l ++ [y], by simp [h1], fun i y' hi => ?_⟩
    rw [List.getElem?_append] at hi
    split at hi
    · exact h2 i y' hi
    · have hin : i - l.length = 0 := by
        have := (List.getElem?_eq_some_iff.1 hi).1
        simp at this
        omega
      rw [hin] at hi
      simp at hi
      subst hi
      have : i = n := by omega
      subst this
      exact hy

theorem TFacts.cellsOf {P : Program} {t : Nat} {i : TI} (h : TFacts P t i) : P.cellsOf t = i.size := by
  obtain ⟨ti, z, h1, h2, _⟩ := h.info
  simp [Program.cellsOf, h1, h2]

theorem open_D {Hh : Type} {enc : TypeId × Value → Hh} {P : Program} {W : World} {spare : Nat → Bool} {held : Bool} {ts : List (Nat × TI)} (hT : TOK P ts) :
    ∀ (d t : Nat), opn ts d t = true → ∀ (fuel : Nat) (cs : List Value) x, DataW.trod enc P W 0 spare held fuel t cs = some x →
      ∃ ds : List D, (ds.length = cs.length ∧ ∀ i, lk ts t = some i → ds.length = i.size) ∧ (∀ (k : Nat) y v, ds[k]? = some y → cs[k]? = some v → Reads (fun _ => False) W y v) ∧ DT ts t ds
  | 0, t, ho, fuel, cs, x, h => by simp [opn] at ho
  | d + 1, t, ho, fuel, cs, x, h => by
    have one : ∀ (u : Value), (∀ i, lk ts t = some i → 1 = i.size) → u.oneCell' = true → cs = [u] → DT ts t [.one u] → ∃ ds : List D, (ds.length = cs.length ∧ ∀ i, lk ts t = some i → ds.length = i.size) ∧ (∀ (k : Nat) y v, ds[k]? = some y → cs[k]? = some v → Reads (fun _ => False) W y v) ∧ DT ts t ds := by
      intro u h1 hu hcs hd
      subst hcs
      refine ⟨[.one u], ⟨rfl, h1⟩, fun k y v hy hv => ?_, hd⟩
      cases k with
      | zero => simp at hy hv; subst hy; subst hv; exact .one _ hu
      | succ k => simp at hy
    simp only [opn] at ho
    split at ho
    · rename_i s b z hi
      obtain ⟨du, hu1, hu2⟩ := (hT.facts hi).und
      cases du <;> simp [tkOf] at hu2
      obtain ⟨n, hcs, _⟩ := DataW.trod_bool hu1 h
      exact one _ (fun i h => by rw [hi] at h; cases h; exact (Nat.eq_of_beq_eq_true ho).symm) rfl hcs (.bool hi n)
    · rename_i k s b z hi
      have hu := und_int hT hi
      obtain ⟨n, hcs, _, hwf⟩ := DataW.trod_int hu h
      exact one _ (fun i h => by rw [hi] at h; cases h; exact (Nat.eq_of_beq_eq_true ho).symm) rfl hcs (.int hi n hwf)
    · rename_i s b z hi
      have hu := und_str hT hi
      obtain ⟨n, hcs, _, hwf⟩ := DataW.trod_string hu h
      exact one _ (fun i h => by rw [hi] at h; cases h; exact (Nat.eq_of_beq_eq_true ho).symm) rfl hcs (.str hi n hwf)
    · rename_i e s b z hi
      simp only [Bool.and_eq_true] at ho
      obtain ⟨⟨ho0, ho1⟩, ho2⟩ := ho
      split at ho2
      · rename_i ie hie
        have hone : ∀ i, lk ts t = some i → 1 = i.size := fun i h => by rw [hi] at h; cases h; exact (Nat.eq_of_beq_eq_true ho0).symm
        have hsz : 0 < ie.size := by simpa using ho2
        have hu := und_slice hT hi
        have hce := (hT.facts hie).cellsOf
        rcases DataW.trod_slice hu h with ⟨hcs, _⟩ | ⟨a, len, cap, elems, rest, n, _, hcs, _, _, hlc, hcm, hlen, hel, _, _⟩
        · subst hcs
          refine ⟨[.row []], ⟨rfl, hone⟩, fun k y v hy hv => ?_, .slice hi hie [] (Nat.zero_le _) (fun x hx => by cases hx) (fun x hx => by cases hx)⟩
          cases k with
          | zero => simp at hy hv; subst hy; subst hv; exact .none _ _
          | succ k => simp at hy
        · subst hcs
          have each : ∀ i, i < len → ∃ ds : List D, ds.length = ie.size ∧ (∀ (k : Nat) y, ds[k]? = some y → ∃ v, W.cell? (a.add (i * ie.size + k)) = some v ∧ Reads (fun _ => False) W y v) ∧ DT ts e ds := by
            intro i hlt
            have h1 := hel i hlt
            have h2 : i < elems.length := by omega
            rw [List.getElem?_eq_getElem h2, hce, Option.bind_eq_some_iff] at h1
            obtain ⟨csi, c1, c2⟩ := h1
            obtain ⟨_, c3, c4⟩ := World.cells?_some c1
            obtain ⟨ds, ⟨d1, _⟩, d2, d3⟩ := open_D hT d e ho1 n csi _ c2
            refine ⟨ds, by omega, fun k y hy => ?_, d3⟩
            have hk : k < csi.length := by have := (List.getElem?_eq_some_iff.1 hy).1; omega
            refine ⟨csi[k], ?_, d2 k y _ hy (List.getElem?_eq_getElem hk)⟩
            have := c4 k (by omega)
            rw [add_add] at this
            rw [this, List.getElem?_eq_getElem hk]
          obtain ⟨xs, x1, x2⟩ := list_choose len each
          have hmem : ∀ x ∈ xs, ∃ i : Nat, xs[i]? = some x := fun x hx => List.getElem?_of_mem hx
          have hxs : ∀ x ∈ xs, x.length = ie.size := fun x hx => by
            obtain ⟨i, hi'⟩ := hmem x hx
            exact (x2 i x hi').1
          have hm' : maxLen = 9223372036854775807 := rfl
          refine ⟨[.row xs], ⟨rfl, hone⟩, fun k y v hy hv => ?_, .slice hi hie xs (by omega) (fun x hx => by
            obtain ⟨i, hi'⟩ := hmem x hx
            exact (x2 i x hi').2.2) hxs⟩
          cases k with
          | zero =>
            simp at hy hv
            subst hy
            subst hv
            by_cases h0 : len = 0
            · have : xs = [] := List.eq_nil_of_length_eq_zero (by omega)
              rw [this, h0]
              exact .none _ _
            · rw [← x1]
              refine .row xs ie.size cap a (fun j i => (W.cell? (a.add (j * ie.size + i))).getD undef) hxs (by omega) (by omega) (fun h => h) ?_ (fun j i x y hx hy => ?_) (fun j i x y hx hy => ?_)
              · have hx0 : 0 < xs.length := by omega
                obtain ⟨e1, e2, _⟩ := x2 0 xs[0] (List.getElem?_eq_getElem hx0)
                obtain ⟨v, e3, _⟩ := e2 0 _ (List.getElem?_eq_getElem (by omega))
                have := World.block_lt_of_cell? W _ e3
                rwa [block_add] at this
              · obtain ⟨v, e3, e4⟩ := (x2 j x hx).2.1 i y hy
                rw [e3]; rfl
              · obtain ⟨v, e3, e4⟩ := (x2 j x hx).2.1 i y hy
                rw [e3]; exact e4
          | succ k => simp at hy
      · cases ho2
    · rename_i offs tys s b z hi
      simp only [Bool.and_eq_true, decide_eq_true_eq] at ho
      obtain ⟨ho1, ho2⟩ := ho
      obtain ⟨du, hu1, hu2⟩ := (hT.facts hi).und
      cases du with
      | struct fs =>
        simp only [tkOf, TK.strct.injEq] at hu2
        obtain ⟨xs, m, _, _, hcl, hxl, hel⟩ := DataW.trod_struct hu1 h
        have hcs : cs.length = s := by rw [hcl, (hT.facts hi).cellsOf]
        have field : ∀ (k o ty : Nat) (i : TI), offs[k]? = some o → tys[k]? = some ty → lk ts ty = some i →
            ∃ ds : List D, ds.length = i.size ∧ (∀ (m : Nat) y v, ds[m]? = some y → cs[o + m]? = some v → Reads (fun _ => False) W y v) ∧ DT ts ty ds := by
          intro k o ty i h1 h2 h3
          rw [← hu2.1, List.getElem?_map, Option.map_eq_some_iff] at h1
          obtain ⟨f, hf1, hf2⟩ := h1
          rw [← hu2.2, List.getElem?_map, hf1, Option.map_some, Option.some.injEq] at h2
          have hf3 : fs[k]? = some f := by simpa using hf1
          have h4 := hel k f hf3
          have hk : k < xs.length := by rw [hxl]; exact (Array.getElem?_eq_some_iff.1 hf3).1
          rw [List.getElem?_eq_getElem hk, hf2, h2, (hT.facts h3).cellsOf] at h4
          obtain ⟨ds, ⟨_, d1⟩, d2, d3⟩ := open_D hT d ty (List.all_eq_true.1 ho1 ty (by rw [← hu2.2]; exact List.mem_map.2 ⟨f, List.mem_of_getElem? hf1, h2⟩)) m _ _ h4
          have hlen : ds.length = i.size := d1 i h3
          refine ⟨ds, hlen, fun q y v hy hv => d2 q y v hy ?_, d3⟩
          have hq : q < i.size := by rw [← hlen]; exact (List.getElem?_eq_some_iff.1 hy).1
          rw [List.getElem?_take, if_pos hq, List.getElem?_drop]
          exact hv
        obtain ⟨_, ds, d1, d2, d3⟩ := lay_open (cs := cs) offs tys 0 s ho2 field
        refine ⟨ds, ⟨by omega, fun i h => by rw [hi] at h; cases h; simpa using d1⟩, fun k y v hy hv => d2 k y v hy (by simpa using hv), .strct hi ds (by omega) (fun k o ty i h1 h2 h3 => by simpa using (d3 k o ty i h1 h2 h3).2)⟩
      | _ => simp [tkOf] at hu2
    · cases ho

end Go.AM
