/- links: the law LinksOrder: the plain law. -/
import Derived.Test.YtefhpcaopchhgaaLnkZ
import Derived.Test.YtefhpcaopchhgaaLnkX
import Derived.Test.YtefhpcaopchhgaaAM79
import Derived.Test.YtefhpcaopchhgaaWk
set_option linter.unusedSimpArgs false
set_option linter.unusedVariables false
namespace Go.Proofs.Try
open Go Go.AM

theorem at_Dgs {x : AV} (h : AT ts 22 x) : ∃ l : List Dg, x = rowDg l ∧ l.length ≤ 9223372036854775807 := by
  obtain ⟨y, rfl, hd⟩ := h
  obtain ⟨xs, e, hl, hx⟩ := DT.slice_inv rfl hd
  cases e
  obtain ⟨l, rfl, _⟩ := list_decode xs (fun x hx' => by obtain ⟨d, e, _⟩ := dt_Dg (hx x hx'); exact ⟨d, e, trivial⟩) (p := fun _ => True)
  exact ⟨l, rfl, by rw [List.length_map] at hl; exact hl⟩
/-- A net with the datagrams of want on their way. -/
abbrev netW (nn : Int) (want : List Dg) : Nt := setW (net0 nn) (want.map fun d => ⟨1, d⟩)
abbrev fate0 : Fa := ⟨false, 0, 0⟩
theorem upS_pair (nn : Int) (want : List Dg) (h : nn ≤ 7) (a b : Int) : upS (netW nn want) a b = pairS (netW nn want) a b := by
  unfold upS
  cases hp : pairS (netW nn want) a b with
  | false => rfl
  | true =>
    have := (pair_ix (n := netW nn want) h hp).2.2.2.2
    show (true && !(List.replicate 49 false).getD (ixS a b) false) = true
    rw [List.getD_eq_getElem?_getD, List.getElem?_replicate]
    split <;> rfl
theorem order_send (nn : Int) (want : List Dg) (d : Dg) (hn : nn ≤ 7) (hw : want.length ≤ 60) (hb : d.bytes.length ≤ 100) :
    (pairS (netW nn want) d.src d.dst = true ∧ sendE (netW nn want) d fate0 = 0 ∧ sendS (netW nn want) d fate0 = netW nn (want ++ [d])) ∨ (pairS (netW nn want) d.src d.dst = false ∧ sendE (netW nn want) d fate0 = 1 ∧ sendS (netW nn want) d fate0 = netW nn want) := by
  have hup := upS_pair nn want hn d.src d.dst
  have hok : okF fate0 := by decide
  have hlen : (netW nn want).way.length = want.length := List.length_map ..
  cases hp : pairS (netW nn want) d.src d.dst with
  | true =>
    rw [hp] at hup
    have hE : sendE (netW nn want) d fate0 = 0 := by
      unfold sendE
      rw [if_neg (by rw [hp]; decide), if_neg (by omega), if_neg (fun h => h hok), if_neg (by rw [hup]; decide), if_neg (by rw [hlen]; show ¬ ¬ ((want.length : Int) + 1 + 0 ≤ 4096); omega)]
    refine .inl ⟨rfl, hE, ?_⟩
    unfold sendS
    rw [if_pos ⟨hE, rfl, hup⟩]
    show setW (netW nn want) ((want.map fun d => (⟨1, d⟩ : It)) ++ [mkI d fate0 0]) = _
    show _ = setW (net0 nn) ((want ++ [d]).map fun d => (⟨1, d⟩ : It))
    rw [List.map_append]
    rfl
  | false =>
    have hE : sendE (netW nn want) d fate0 = 1 := by
      unfold sendE
      rw [if_pos hp]
    refine .inr ⟨rfl, hE, ?_⟩
    unfold sendS
    rw [if_neg (fun h => by rw [hE] at h; exact absurd h.1 (by decide))]
theorem order_arr (want : List Dg) : arrS (want.map fun d => (⟨1, d⟩ : It)) = want ∧ leftS (want.map fun d => (⟨1, d⟩ : It)) = [] := by
  unfold arrS leftS
  have h1 : (want.map fun d => (⟨1, d⟩ : It)).filter soon = want.map fun d => (⟨1, d⟩ : It) := by
    rw [List.filter_eq_self]
    intro x hx
    obtain ⟨d, _, rfl⟩ := List.mem_map.1 hx
    rfl
  have h2 : (want.map fun d => (⟨1, d⟩ : It)).filter (fun x => !soon x) = [] := by
    rw [List.filter_eq_nil_iff]
    intro x hx
    obtain ⟨d, _, rfl⟩ := List.mem_map.1 hx
    show ¬ (!decide ((1 : Int) - 1 = 0)) = true
    decide
  rw [h1, h2]
  refine ⟨?_, rfl⟩
  rw [List.map_map]
  exact List.map_id _
/-- A row of bytes at the side. -/
def sdB (p : Value × List Nat) : Sd := ⟨p.1, rowP p.1 5 1 (p.2.map encU), fun _ _ _ h => h.1⟩
abbrev encV (p : Value × List Nat) : List D := [.one p.1]
end Go.Proofs.Try
