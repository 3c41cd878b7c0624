/- links: what is on its way, counted. -/
import Derived.Test.YtefhpcaopchhgaaLnkM
import Derived.Test.YtefhpcaopchhgaaWk
set_option linter.unusedSimpArgs false
set_option linter.unusedVariables false
namespace Go.Proofs.Try
open Go Go.AM

abbrev key (d : Dg) : Int × Int × ByteArray := (d.src, d.dst, strN d.bytes)
def cntW (k : Int × Int × ByteArray) (l : List It) : Nat := l.countP fun x => decide (key x.d = k)
def cntD (k : Int × Int × ByteArray) (l : List Dg) : Nat := l.countP fun d => decide (key d = k)
def sumA (k : Int × Int × ByteArray) : List Sn → Int
  | [] => 0
  | s :: r => (if key s.d = k then s.left else 0) + sumA k r
theorem hitB_iff {d : Dg} {s : Sn} : hitB d s = true ↔ 0 < s.left ∧ key s.d = key d := by
  unfold hitB keyB
  simp only [Bool.and_eq_true, decide_eq_true_eq, Prod.mk.injEq]
def NnA (a : List Sn) : Prop := ∀ s ∈ a, 0 ≤ s.left
theorem dec1_some {d : Dg} : ∀ {a : List Sn}, NnA a → 1 ≤ sumA (key d) a → ∃ a', dec1 d a = some a'
  | [], _, h => by simp [sumA] at h
  | s :: r, hn, h => by
    rw [dec1]
    by_cases hh : hitB d s = true
    · rw [if_pos hh]; exact ⟨_, rfl⟩
    · rw [if_neg hh]
      have hs := hn s List.mem_cons_self
      have h2 : (if key s.d = key d then s.left else 0) = 0 := by
        split
        · rename_i hk
          by_cases hp : 0 < s.left
          · exact absurd (hitB_iff.2 ⟨hp, hk⟩) hh
          · omega
        · rfl
      rw [sumA, h2, Int.zero_add] at h
      obtain ⟨a', ha⟩ := dec1_some (fun x hx => hn x (List.mem_cons_of_mem _ hx)) h
      exact ⟨_, by rw [ha]; rfl⟩
theorem dec1_sum {d : Dg} : ∀ {a a' : List Sn}, dec1 d a = some a' → NnA a → (∀ k, sumA k a' = sumA k a - if key d = k then 1 else 0) ∧ NnA a' ∧ a'.length = a.length ∧ ∀ m : Int, (∀ s ∈ a, s.left ≤ m) → ∀ s ∈ a', s.left ≤ m
  | [], a', h, _ => by cases h
  | s :: r, a', h, hn => by
    rw [dec1] at h
    split at h
    · rename_i hh
      cases h
      obtain ⟨hp, hk⟩ := hitB_iff.1 hh
      refine ⟨fun k => ?_, fun x hx => ?_, rfl, fun m hm x hx => ?_⟩
      · rw [sumA, sumA, hk]
        split
        · show s.left - 1 + _ = _
          omega
        · omega
      · rcases List.mem_cons.1 hx with rfl | hx
        · show 0 ≤ s.left - 1
          omega
        · exact hn x (List.mem_cons_of_mem _ hx)
      · rcases List.mem_cons.1 hx with rfl | hx
        · have := hm s List.mem_cons_self
          show s.left - 1 ≤ m
          omega
        · exact hm x (List.mem_cons_of_mem _ hx)
    · rw [Option.map_eq_some_iff] at h
      obtain ⟨r', hr, rfl⟩ := h
      obtain ⟨h1, h2, h3, h4⟩ := dec1_sum hr (fun x hx => hn x (List.mem_cons_of_mem _ hx))
      refine ⟨fun k => ?_, fun x hx => ?_, by simp [h3], fun m hm x hx => ?_⟩
      · rw [sumA, sumA, h1 k]
        omega
      · rcases List.mem_cons.1 hx with rfl | hx
        · exact hn x List.mem_cons_self
        · exact h2 x hx
      · rcases List.mem_cons.1 hx with rfl | hx
        · exact hm x List.mem_cons_self
        · exact h4 m (fun y hy => hm y (List.mem_cons_of_mem _ hy)) x hx
theorem cntD_cons (k : Int × Int × ByteArray) (d : Dg) (l : List Dg) : (cntD k (d :: l) : Int) = cntD k l + if key d = k then 1 else 0 := by
  unfold cntD
  rw [List.countP_cons]
  by_cases h : key d = k <;> simp [h]
theorem decL_some : ∀ {l : List Dg} {a : List Sn}, NnA a → (∀ k, (cntD k l : Int) ≤ sumA k a) → ∃ a', decL l a = some a' ∧ (∀ k, sumA k a' = sumA k a - cntD k l) ∧ NnA a' ∧ a'.length = a.length ∧ ∀ m : Int, (∀ s ∈ a, s.left ≤ m) → ∀ s ∈ a', s.left ≤ m
  | [], a, hn, _ => ⟨a, rfl, fun k => by simp [cntD], hn, rfl, fun m hm => hm⟩
  | d :: r, a, hn, h => by
    have h1 : 1 ≤ sumA (key d) a := by
      have := h (key d)
      rw [cntD_cons, if_pos rfl] at this
      omega
    obtain ⟨a1, e1⟩ := dec1_some hn h1
    obtain ⟨s1, s2, s3, s4⟩ := dec1_sum e1 hn
    obtain ⟨a', e2, t1, t2, t3, t4⟩ := decL_some (l := r) s2 (fun k => by
      have := h k
      rw [cntD_cons] at this
      rw [s1 k]
      omega)
    refine ⟨a', by rw [decL, e1]; exact e2, fun k => ?_, t2, by rw [t3, s3], fun m hm => t4 m (s4 m hm)⟩
    rw [t1 k, s1 k, cntD_cons]
    omega
theorem arr_cons (x : It) (r : List It) : arrS (x :: r) = if soon x = true then x.d :: arrS r else arrS r := by
  unfold arrS
  rw [List.filter_cons]
  split <;> rfl
theorem left_cons (x : It) (r : List It) : leftS (x :: r) = if soon x = true then leftS r else nearer x :: leftS r := by
  unfold leftS
  rw [List.filter_cons]
  by_cases h : soon x = true
  · rw [if_pos h, if_neg (by rw [h]; decide)]
  · rw [if_neg h, if_pos (by rw [Bool.eq_false_iff.2 h]; decide)]
    rfl
theorem cnt_step (k : Int × Int × ByteArray) : ∀ l : List It, cntW k l = cntD k (arrS l) + cntW k (leftS l)
  | [] => rfl
  | x :: r => by
    have ih := cnt_step k r
    have e : cntW k (x :: r) = cntW k r + if key x.d = k then 1 else 0 := by
      unfold cntW
      rw [List.countP_cons]
      simp
    rw [e, arr_cons, left_cons]
    by_cases h : soon x = true
    · rw [if_pos h, if_pos h]
      have e2 : cntD k (x.d :: arrS r) = cntD k (arrS r) + if key x.d = k then 1 else 0 := by
        unfold cntD
        rw [List.countP_cons]
        simp
      rw [e2]
      omega
    · rw [if_neg h, if_neg h]
      have e2 : cntW k (nearer x :: leftS r) = cntW k (leftS r) + if key x.d = k then 1 else 0 := by
        unfold cntW
        rw [List.countP_cons]
        simp
      rw [e2]
      omega
theorem cnt_put (k : Int × Int × ByteArray) (l : List It) (d : Dg) (f : Fa) : ∀ m : Nat, (cntW k (putI l d f m) : Int) = cntW k l + if key d = k then (m : Int) else 0
  | 0 => by simp [putI]
  | m + 1 => by
    have ih := cnt_put k l d f m
    unfold cntW at *
    rw [putI, List.countP_append, List.countP_cons, List.countP_nil]
    by_cases h : key d = k
    · rw [if_pos h] at *
      simp only [h, decide_true, if_true]
      omega
    · rw [if_neg h] at *
      simp only [h, decide_false]
      simpa using ih
theorem cnt_filter (k : Int × Int × ByteArray) (p : It → Bool) (l : List It) : cntW k (l.filter p) ≤ cntW k l := List.Sublist.countP_le List.filter_sublist
theorem sum_append (k : Int × Int × ByteArray) (s : Sn) : ∀ a : List Sn, sumA k (a ++ [s]) = sumA k a + if key s.d = k then s.left else 0
  | [] => by simp [sumA]
  | x :: r => by
    rw [List.cons_append, sumA, sumA, sum_append k s r]
    omega
/-- What was sent accounts for what is on its way; without cuts, for no more. -/
structure InvO (cut : Bool) (a : List Sn) (l : List It) : Prop where
  nn : NnA a
  le : ∀ k, (cntW k l : Int) ≤ sumA k a
  eq : cut = false → ∀ k, sumA k a = cntW k l
  mx : ∀ s ∈ a, s.left ≤ 1000
theorem InvO.step {cut : Bool} {a : List Sn} {l : List It} (h : InvO cut a l) : ∃ a', decL (arrS l) a = some a' ∧ InvO cut a' (leftS l) ∧ a'.length = a.length := by
  obtain ⟨a', e, t1, t2, t3, t4⟩ := decL_some (l := arrS l) h.nn (fun k => by
    have h1 := h.le k
    have h2 := cnt_step k l
    omega)
  refine ⟨a', e, ⟨t2, fun k => ?_, fun hc k => ?_, t4 1000 h.mx⟩, t3⟩
  · have h1 := h.le k
    have h2 := cnt_step k l
    have h3 := t1 k
    omega
  · have h1 := h.eq hc k
    have h2 := cnt_step k l
    have h3 := t1 k
    omega
theorem InvO.send {cut : Bool} {a : List Sn} {l : List It} (h : InvO cut a l) (d : Dg) (f : Fa) (m : Nat) (hm : m ≤ 1000) : InvO cut (a ++ [⟨d, m⟩]) (putI l d f m) := by
  refine ⟨fun s hs => ?_, fun k => ?_, fun hc k => ?_, fun s hs => ?_⟩
  · rcases List.mem_append.1 hs with hs | hs
    · exact h.nn s hs
    · rw [List.mem_singleton.1 hs]; exact Int.natCast_nonneg m
  · have h1 := h.le k
    rw [cnt_put, sum_append]
    show _ ≤ _ + if key d = k then (m : Int) else 0
    omega
  · have h1 := h.eq hc k
    rw [cnt_put, sum_append, h1]
  · rcases List.mem_append.1 hs with hs | hs
    · exact h.mx s hs
    · rw [List.mem_singleton.1 hs]
      show (m : Int) ≤ 1000
      omega
theorem InvO.cut {cut : Bool} {a : List Sn} {l : List It} (h : InvO cut a l) (p : It → Bool) : InvO true a (l.filter p) :=
  ⟨h.nn, fun k => by have h1 := h.le k; have h2 := cnt_filter k p l; omega, (fun hc => by cases hc), h.mx⟩
theorem sum_zero {a : List Sn} (hn : NnA a) (h : ∀ k, sumA k a = 0) : ∀ s ∈ a, s.left = 0 := by
  induction a with
  | nil => intro s hs; cases hs
  | cons x r ih =>
    have hnr : NnA r := fun y hy => hn y (List.mem_cons_of_mem _ hy)
    have hsn : ∀ k, 0 ≤ sumA k r := by
      intro k
      clear ih h hn
      induction r with
      | nil => simp [sumA]
      | cons y t iht =>
        have h1 := hnr y List.mem_cons_self
        have h2 := iht (fun z hz => hnr z (List.mem_cons_of_mem _ hz))
        rw [sumA]
        split <;> omega
    have hx := hn x List.mem_cons_self
    have h0 : x.left = 0 := by
      have h1 := h (key x.d)
      have h2 := hsn (key x.d)
      rw [sumA, if_pos rfl] at h1
      omega
    intro s hs
    rcases List.mem_cons.1 hs with rfl | hs
    · exact h0
    · refine ih hnr (fun k => ?_) s hs
      have h1 := h k
      rw [sumA, h0] at h1
      simpa using h1
theorem InvO.done {cut : Bool} {a : List Sn} (h : InvO cut a []) : ∀ s ∈ a, 0 ≤ s.left ∧ (cut = false → s.left = 0) := fun s hs =>
  ⟨h.nn s hs, fun hc => sum_zero h.nn (fun k => by rw [h.eq hc k]; rfl) s hs⟩
/-- What is on its way arrives in at most b steps. -/
def MaxW (b : Int) (l : List It) : Prop := ∀ x ∈ l, 1 ≤ x.wait ∧ x.wait ≤ b
theorem MaxW.step {b : Int} {l : List It} (h : MaxW b l) : MaxW (b - 1) (leftS l) := by
  intro x hx
  unfold leftS at hx
  obtain ⟨y, hy, rfl⟩ := List.mem_map.1 hx
  obtain ⟨hy1, hy2⟩ := List.mem_filter.1 hy
  have := h y hy1
  have hne : ¬ y.wait - 1 = 0 := by simpa [soon] using hy2
  show 1 ≤ y.wait - 1 ∧ y.wait - 1 ≤ b - 1
  omega
theorem MaxW.mono {b c : Int} {l : List It} (h : MaxW b l) (hb : b ≤ c) : MaxW c l := fun x hx => ⟨(h x hx).1, by have := (h x hx).2; omega⟩
theorem MaxW.nil {b : Int} {l : List It} (h : MaxW b l) (hb : b ≤ 0) : l = [] := by
  cases l with
  | nil => rfl
  | cons x r =>
    have := h x List.mem_cons_self
    omega
theorem MaxW.put {l : List It} {d : Dg} {f : Fa} (h : MaxW 82 l) (h0 : 0 ≤ f.delay) (h1 : f.delay ≤ 49) : ∀ {m : Nat}, m ≤ 33 → MaxW 82 (putI l d f m)
  | 0, _ => h
  | m + 1, hm => by
    intro x hx
    rw [putI] at hx
    rcases List.mem_append.1 hx with hx | hx
    · exact MaxW.put h h0 h1 (by omega) x hx
    · rw [List.mem_singleton.1 hx]
      show 1 ≤ 1 + f.delay + m ∧ 1 + f.delay + m ≤ 82
      omega
theorem MaxW.filter {b : Int} {l : List It} (h : MaxW b l) (p : It → Bool) : MaxW b (l.filter p) := fun x hx => h x (List.mem_filter.1 hx).1
end Go.Proofs.Try
