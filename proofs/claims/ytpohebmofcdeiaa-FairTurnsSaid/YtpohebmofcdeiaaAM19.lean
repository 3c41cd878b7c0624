/- A machine over pure data: part 19: from a law's contract to the law's row: its arguments opened, its result and its world. -/
import Derived.Test.YtpohebmofcdeiaaAM18
import Derived.WideShapes
import Derived.Carry
namespace Go.AM
open Go Go.RowKit

/-- What an argument may be, as the machine holds it. -/
def AT (ts : List (Nat × TI)) (t : Nat) (x : AV) : Prop :=
  match lk ts t with
  | some ⟨.strct _ _, _, _, _⟩ => ∃ ds, x = .agg (ds.map AV.d) ∧ DT ts t ds
  | _ => ∃ y, x = .d y ∧ DT ts t [y]

theorem vr_one {W : World} {v : Value} {ts : List (Nat × TI)} {t : Nat} {ds : List D} (hl : ds.length = 1) (h1 : ∀ (k : Nat) y u, ds[k]? = some y → [v][k]? = some u → Reads (fun _ => False) W y u) (h2 : DT ts t ds) :
    ∃ x, (∃ y, x = .d y ∧ DT ts t [y]) ∧ VR (fun _ => none) (fun _ => False) W x v := by
  match ds, hl with
  | [y], _ => exact ⟨.d y, ⟨y, rfl, h2⟩, .d y v (h1 0 y v rfl rfl)⟩

theorem open_arg {Hh : Type} {enc : TypeId × Value → Hh} {P : Program} {W : World} {spare : Nat → Bool} {held : Bool} {ts : List (Nat × TI)} (hT : TOK P ts) {base t : Nat} {v : Value} {dd : DataW Hh} {ps : List MemPlace} (d : Nat)
    (ho : opn ts d t = true) (hw : Value.okWide P W .any base t v) (h : DataW.Trod enc P W 0 spare held t v dd ps) : ∃ x, AT ts t x ∧ VR (fun _ => none) (fun _ => False) W x v := by
  obtain ⟨fuel, hf⟩ := h
  obtain ⟨ds, ⟨e1, _⟩, e2, e3⟩ := open_D hT d t ho fuel _ _ hf
  cases d with
  | zero => simp [opn] at ho
  | succ d =>
    simp only [opn] at ho
    unfold AT
    split at ho
    · rename_i s b z hi
      rw [hi]
      obtain ⟨du, hu1, hu2⟩ := (hT.facts hi).und
      cases du <;> simp [tkOf] at hu2
      obtain ⟨n, rfl⟩ := WideShapes.okWide_bool hu1 hw
      exact vr_one e1 e2 e3
    · rename_i k s b z hi
      rw [hi]
      obtain ⟨n, rfl⟩ := WideShapes.okWide_int (und_int hT hi) hw
      exact vr_one e1 e2 e3
    · rename_i s b z hi
      rw [hi]
      obtain ⟨n, rfl⟩ := WideShapes.okWide_string (und_str hT hi) hw
      exact vr_one e1 e2 e3
    · rename_i e s b z hi
      rw [hi]
      obtain ⟨a, len, cap, rfl⟩ := WideShapes.okWide_slice (und_slice hT hi) hw
      exact vr_one e1 e2 e3
    · rename_i offs tys s b z hi
      rw [hi]
      obtain ⟨du, hu1, hu2⟩ := (hT.facts hi).und
      cases du with
      | struct fs =>
        obtain ⟨cs, rfl, hcs⟩ := WideShapes.okWide_struct hu1 hw
        have hcell : (Value.agg cs).cells = cs := rfl
        rw [hcell] at e1 e2
        refine ⟨.agg (ds.map AV.d), ⟨ds, rfl, e3⟩, .agg _ cs (by simpa using e1) (fun k x u hx hu => ?_)⟩
        rw [List.getElem?_map, Option.map_eq_some_iff] at hx
        obtain ⟨y, hy, rfl⟩ := hx
        exact .d y u (e2 k y u hy (by simpa using hu))
      | _ => simp [tkOf] at hu2
    · cases ho

theorem law_calls {P : Program} {f : FuncId} {ys : List AV} {args : Array Value} {W : World} {b : Bool} (hc : ACallP P f ys (bo b)) (hl : args.size = ys.length)
    (ha : ∀ (k : Nat) x v, ys[k]? = some x → args[k]? = some v → VR (fun _ => none) (fun _ => False) W x v) : Calls P f args W fun e w' => e = .returned (.bool b) ∧ Below W.heap.size W w' := by
  have hini : Ini ⟨fun _ => none, fun _ => False, fun _ => False, W⟩ ys [] args := by
    refine ⟨hl, fun k x v hx hv => ?_, ⟨fun i b hb => ?_, fun i b g hb => ?_, fun i j bi bj g hb => ?_⟩, fun k hk => hk.elim, fun k hk => hk.elim⟩
    · have h := ha k x v hx hv
      have : ρ0 ⟨fun _ => none, fun _ => False, fun _ => False, W⟩ = fun _ => none := by
        funext i
        cases i <;> rfl
      rw [this]
      exact h
    · cases i <;> simp [hkp] at hb
    · cases i <;> simp [hkp] at hb
    · cases i <;> simp [hkp] at hb
  refine (hc.2 _ _ hini).mono ?_
  rintro e w' ⟨r, Hp', Hr, v, ρ, O, ⟨rfl, rfl⟩, rfl, hf⟩
  refine ⟨?_, hf.F.os, hf.F.tape, hf.F.output, hf.F.size, fun k hk => hf.F.same k hk (fun h => h.elim)⟩
  have := hf.r
  cases this with
  | d x v h => cases h with
    | one _ _ => rfl

/-! ### what the argument's data is -/
theorem DT.bool_inv {ts : List (Nat × TI)} {t s b : Nat} {z : List AV} (h : lk ts t = some ⟨.bool, s, b, z⟩) {ds : List D} (hd : DT ts t ds) : ∃ n, ds = [.one (.bool n)] := by
  cases hd <;> rename_i h' <;> simp_all
theorem DT.int_inv {ts : List (Nat × TI)} {t s b : Nat} {k : IntKind} {z : List AV} (h : lk ts t = some ⟨.int k, s, b, z⟩) {ds : List D} (hd : DT ts t ds) : ∃ n, ds = [.one (.int k n)] ∧ (Lit.int k n).wf = true := by
  cases hd with
  | int h' n hn => rw [h] at h'; cases h'; exact ⟨n, rfl, hn⟩
  | bool h' => rw [h] at h'; cases h'
  | str h' => rw [h] at h'; cases h'
  | slice h' => rw [h] at h'; cases h'
  | strct h' => rw [h] at h'; cases h'
theorem DT.str_inv {ts : List (Nat × TI)} {t s b : Nat} {z : List AV} (h : lk ts t = some ⟨.str, s, b, z⟩) {ds : List D} (hd : DT ts t ds) : ∃ n, ds = [.one (.string n)] ∧ n.size ≤ maxLen := by
  cases hd with
  | str h' n hn => exact ⟨n, rfl, hn⟩
  | bool h' => rw [h] at h'; cases h'
  | int h' => rw [h] at h'; cases h'
  | slice h' => rw [h] at h'; cases h'
  | strct h' => rw [h] at h'; cases h'
theorem DT.slice_inv {ts : List (Nat × TI)} {t s b e : Nat} {z : List AV} (h : lk ts t = some ⟨.slice e, s, b, z⟩) {ds : List D} (hd : DT ts t ds) : ∃ xs, ds = [.row xs] ∧ xs.length ≤ maxLen ∧ ∀ x ∈ xs, DT ts e x := by
  cases hd with
  | slice h' he xs hl hx hs => rw [h] at h'; cases h'; exact ⟨xs, rfl, hl, hx⟩
  | bool h' => rw [h] at h'; cases h'
  | int h' => rw [h] at h'; cases h'
  | str h' => rw [h] at h'; cases h'
  | strct h' => rw [h] at h'; cases h'
theorem DT.strct_inv {ts : List (Nat × TI)} {t s b : Nat} {offs tys : List Nat} {z : List AV} (h : lk ts t = some ⟨.strct offs tys, s, b, z⟩) {ds : List D} (hd : DT ts t ds) :
    ds.length = s ∧ ∀ (k o ty : Nat) (i : TI), offs[k]? = some o → tys[k]? = some ty → lk ts ty = some i → DT ts ty ((ds.drop o).take i.size) := by
  cases hd with
  | strct h' ds hl hf => rw [h] at h'; cases h'; exact ⟨hl, hf⟩
  | bool h' => rw [h] at h'; cases h'
  | int h' => rw [h] at h'; cases h'
  | str h' => rw [h] at h'; cases h'
  | slice h' => rw [h] at h'; cases h'

theorem list_decode {α : Type} {e : α → List D} {p : α → Prop} : ∀ (xs : List (List D)), (∀ x ∈ xs, ∃ a, x = e a ∧ p a) → ∃ l : List α, xs = l.map e ∧ ∀ a ∈ l, p a
  | [], _ => ⟨[], rfl, fun a h => by cases h⟩
  | x :: xs, h => by
    obtain ⟨a, rfl, ha⟩ := h x (by simp)
    obtain ⟨l, rfl, hl⟩ := list_decode xs (fun y hy => h y (by simp [hy]))
    exact ⟨a :: l, rfl, fun b hb => by
      rcases List.mem_cons.1 hb with rfl | hb
      · exact ha
      · exact hl b hb⟩
end Go.AM
