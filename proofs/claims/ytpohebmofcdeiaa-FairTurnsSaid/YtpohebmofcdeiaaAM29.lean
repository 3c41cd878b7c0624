/- A machine over pure data: part 29: regions that draw their order: the rule, ready for walks. -/
import Derived.Test.YtpohebmofcdeiaaAM28
set_option linter.unusedVariables false
namespace Go.AM
open Go Go.RowKit

section
variable {P : Program} {l : List Oper} {Q : Exit → St → Prop} {n clk : Nat} {T0 : List (Nat × AV)} {H0 : List (Nat × Option Blk)} {Hp : List Blk} {D HT HH : List (List Nat)} {M : List (Nat × Nat)}

def lst (a : Array Bool) (k : Nat) : Bool := a.getD k false

theorem count_set : ∀ {L : List Bool} {i : Nat}, L[i]? = some false → (L.set i true).count false + 1 = L.count false
  | [], i, h => by simp at h
  | b :: L, 0, h => by
    simp at h
    subst h
    simp
  | b :: L, i + 1, h => by
    have := count_set (L := L) (i := i) (by simpa using h)
    cases b <;> simp <;> omega

theorem dirs_ready {listed : Array Bool} {i : Nat} (h : i ∈ Region.ready .any l.toArray listed) : lst listed i = false ∧ i < listed.size ∧ ∃ o, l[i]? = some o ∧ ∀ d ∈ dirs o, lst listed d = true := by
  obtain ⟨h1, o, ho, h2⟩ := mem_ready.1 h
  have hlt : i < listed.size := by
    refine Classical.byContradiction fun hn => ?_
    rw [Array.getD_eq_getD_getElem?, Array.getElem?_eq_none (by omega)] at h1
    simp at h1
  refine ⟨?_, hlt, o, by simpa using ho, fun d hd => ?_⟩
  · unfold lst
    rw [Array.getD_eq_getD_getElem?, Array.getElem?_eq_getElem hlt] at h1 ⊢
    simpa using h1
  · obtain ⟨e, he, rfl⟩ := List.mem_map.1 hd
    obtain ⟨he1, he2⟩ := List.mem_filter.1 he
    exact h2 e (by simpa using he1) he2

theorem all_listed (hc : Chk l clk D HT HH M) {listed : Array Bool} (hsz : listed.size = l.length) (hr : Region.ready .any l.toArray listed = []) : ∀ j, j < l.length → lst listed j = true := by
  intro j
  induction j using Nat.strongRecOn with
  | ind j ih =>
    intro hj
    cases hl : lst listed j with
    | true => rfl
    | false =>
      exfalso
      have hlt : j < listed.size := by omega
      have : j ∈ Region.ready .any l.toArray listed := by
        refine mem_ready.2 ⟨?_, l[j], by simp [hj], fun e he hb => ?_⟩
        · unfold lst at hl
          rw [Array.getD_eq_getD_getElem?, Array.getElem?_eq_getElem hlt] at hl ⊢
          simpa using hl
        · have h2 := hc.a j hj
          unfold chkA at h2
          rw [List.getElem?_eq_getElem hj] at h2
          simp only [Bool.and_eq_true, List.all_eq_true] at h2
          have hd : e.on ∈ dirs l[j] := List.mem_map.2 ⟨e, List.mem_filter.2 ⟨by simpa using he, hb⟩, rfl⟩
          have h3 : e.on < j := by simpa using h2.1 _ hd
          exact ih e.on h3 (by omega)
      rw [hr] at this
      cases this

theorem any_go (hc : Chk l clk D HT HH M) (hb : base clk T0 H0 = true) (hp : ∀ b ∈ Hp, LFB b) {R : List (Nat × Ef)} (hR : Good P l n T0 H0 Hp clk (clk + l.length) D HT HH M l.length R) (hQ : Q .normal (stR n T0 H0 Hp (clk + l.length) (fun _ => true) R)) (c : Ctx) :
    ∀ (fuel : Nat) (listed : Array Bool), listed.size = l.length → Down l (lst listed) → listed.toList.count false ≤ fuel → ∀ a w, Sat c (stR n T0 H0 Hp (clk + l.length) (lst listed) R) a w → wpAny P .any l.toArray (post c Q) fuel listed a w := by
  have fin : ∀ listed : Array Bool, (∀ j, j < l.length → lst listed j = true) → ∀ a w, Sat c (stR n T0 H0 Hp (clk + l.length) (lst listed) R) a w → post c Q .normal a w := by
    intro listed hall a w hs
    refine ⟨_, hQ, ?_⟩
    have e1 : sel (lst listed) slL R T0 = sel (fun _ => true) slL R T0 := sel_congr fun k e he => hall k (hR.lt k e he)
    have e2 : sel (lst listed) Ef.bl R H0 = sel (fun _ => true) Ef.bl R H0 := sel_congr fun k e he => hall k (hR.lt k e he)
    unfold stR at hs ⊢
    rw [← e1, ← e2]
    exact hs
  intro fuel
  induction fuel with
  | zero =>
    intro listed hsz hd hcnt a w hs
    have hall : ∀ j, j < l.length → lst listed j = true := by
      intro j hj
      cases hl : lst listed j with
      | true => rfl
      | false =>
        exfalso
        have hlt : j < listed.size := by omega
        have : false ∈ listed.toList := by
          unfold lst at hl
          rw [Array.getD_eq_getD_getElem?, Array.getElem?_eq_getElem hlt] at hl
          simp at hl
          rw [← hl]
          simp
        have := List.count_pos_iff.2 this
        omega
    refine ⟨?_, fin listed hall a w hs⟩
    refine List.eq_nil_iff_forall_not_mem.2 fun i hi => ?_
    obtain ⟨h1, h2, _⟩ := dirs_ready hi
    rw [hall i (by omega)] at h1
    cases h1
  | succ fuel ih =>
    intro listed hsz hd hcnt a w hs
    refine ⟨fun hr => fin listed (all_listed hc hsz hr) a w hs, fun i hi => ?_⟩
    obtain ⟨h1, h2, o, ho, h3⟩ := dirs_ready hi
    have hil : i < l.length := by omega
    obtain ⟨e, he⟩ := hR.has i hil
    obtain ⟨o', ho', hsp, _, _⟩ := hR.all i e he
    rw [ho] at ho'
    cases ho'
    have hle := pre_le (HT := HT) (HH := HH) hc hb hR hd hil h1 (down_mD hc hd i o ho h3)
    have hfit := fit_st hc rfl hb hp hR hd hil h1
    have hal := hsp _ hle hfit
    refine AOp.sound (AOp.some ho hal) hs _ (fun σ' a' w' hK hs' => ?_)
    have hset : ∀ k, k ≠ i → lst (listed.setIfInBounds i true) k = lst listed k := fun k hk => by
      unfold lst
      rw [Array.getD_eq_getD_getElem?, Array.getD_eq_getD_getElem?, Array.getElem?_setIfInBounds_ne (Ne.symm hk)]
    have hseti : lst (listed.setIfInBounds i true) i = true := by
      unfold lst
      rw [Array.getD_eq_getD_getElem?, Array.getElem?_setIfInBounds]
      simp [h2]
    refine ih _ (by simp [hsz]) (fun k ok hok hk d hdd => ?_) ?_ a' w' (push_imp hc hR hd hil h1 hseti hset he c a' w' (hK c a' w' hs'))
    · by_cases hdi : d = i
      · rw [hdi]; exact hseti
      · rw [hset d hdi]
        by_cases hki : k = i
        · subst hki
          rw [ho] at hok
          cases hok
          exact h3 d hdd
        · rw [hset k hki] at hk
          exact hd k ok hok hk d hdd
    · have hf : listed.toList[i]? = some false := by
        unfold lst at h1
        rw [Array.getD_eq_getD_getElem?, Array.getElem?_eq_getElem h2] at h1
        simp at h1
        simp [h2, h1]
      have := count_set hf
      rw [Array.toList_setIfInBounds]
      omega

theorem AW.any {id : Nat} (hm : P.follows .mixedOrders = true) (D HT HH : List (List Nat)) (M : List (Nat × Nat)) (hc : chk l clk D HT HH M = true) (hb : base clk T0 H0 = true) (hp : ∀ b ∈ Hp, LFB b)
    (h : AR P l Q n T0 H0 Hp clk (clk + l.length) D HT HH M 0 l []) : AW P (.region id l.toArray true) Q ⟨n, T0, H0, Hp, clk⟩ := by
  have hc := chk_spec hc
  have hg0 : Good P l n T0 H0 Hp clk (clk + l.length) D HT HH M 0 [] := ⟨(fun k e he => by cases he), (fun k e he => by cases he), (fun k hk => by omega), List.nodup_nil, List.Pairwise.nil⟩
  obtain ⟨R, hR, hQ⟩ := AR.good hc.a h (by simp) (by simp) hg0
  rintro c a w ⟨ρ, O, hs⟩
  refine wp_region_any hm ?_
  have hempty : ∀ k, lst (Array.replicate l.length false) k = false := fun k => by
    unfold lst
    rw [Array.getD_eq_getD_getElem?, Array.getElem?_replicate]
    split <;> rfl
  have e1 : sel (lst (Array.replicate l.length false)) slL R T0 = T0 := by
    rw [sel_congr (S' := fun _ => false) (fun k e _ => hempty k)]
    clear hR hQ
    induction R with
    | nil => rfl
    | cons p R ih => obtain ⟨k, e⟩ := p; simpa [sel] using ih
  have e2 : sel (lst (Array.replicate l.length false)) Ef.bl R H0 = H0 := by
    rw [sel_congr (S' := fun _ => false) (fun k e _ => hempty k)]
    clear hR hQ e1
    induction R with
    | nil => rfl
    | cons p R ih => obtain ⟨k, e⟩ := p; simpa [sel] using ih
  have hs' : SatAt c ⟨n, T0, H0, Hp, clk + l.length⟩ a w ρ O := ⟨hs.defers, hs.n, hs.par, fun k hk => hs.fresh k (by simp only at hk ⊢; omega), hs.T, ⟨fun i b hb => hs.H.ok i b (by cases i <;> exact hb), fun i b g hb => hs.H.own i b g (by cases i <;> exact hb), fun i j bi bj g hi hj => hs.H.inj i j bi bj g (by cases i <;> exact hi) (by cases j <;> exact hj)⟩, hs.F⟩
  have := any_go hc hb hp hR hQ c l.length (Array.replicate l.length false) (by simp) (fun k o ho hk => by rw [hempty] at hk; cases hk) (by simp) a { w with drawn := w.drawn + 1 } (by
    unfold stR
    rw [e1, e2]
    exact ⟨ρ, O, sat_below hs' ⟨rfl, rfl, rfl, Nat.le_refl _, fun _ _ => rfl⟩⟩)
  simpa using this

/-! ### told in full -/
def filA {α β : Type} (h : List Nat) : List (Nat × α) → List (Nat × α) → (List (Nat × α) → Option β) → Option β
  | [], tl, K => K tl
  | p :: r, tl, K => bif hasN h p.1 then filA h r tl K else filA h r tl fun l => K (p :: l)
def selK {α β : Type} (S : Nat → Bool) (g : Ef → List (Nat × α)) (h : List Nat) : List (Nat × Ef) → List (Nat × α) → (List (Nat × α) → Option β) → Option β
  | [], acc, K => filA h acc [] K
  | (k, e) :: R, acc, K => bif S k then selK S g h R acc (fun tl => filA h (g e) tl K) else selK S g h R acc K
theorem filA_spec {α β : Type} {r : β} {h : List Nat} {tl : List (Nat × α)} : ∀ {l : List (Nat × α)} {K : List (Nat × α) → Option β}, filA h l tl K = some r → K (fil h l ++ tl) = some r
  | [], K, hK => hK
  | p :: l, K, hK => by
    simp only [filA] at hK
    simp only [fil, List.filter_cons]
    cases hb : hasN h p.1 with
    | true =>
      rw [hb] at hK
      have := filA_spec hK
      simpa [fil] using this
    | false =>
      rw [hb] at hK
      have := filA_spec hK
      simpa [fil] using this
theorem selK_spec {α β : Type} {r : β} {S : Nat → Bool} {g : Ef → List (Nat × α)} {h : List Nat} {acc : List (Nat × α)} : ∀ {R : List (Nat × Ef)} {K : List (Nat × α) → Option β}, selK S g h R acc K = some r → K (fil h (sel S g R acc)) = some r
  | [], K, hK => by simpa [sel] using filA_spec (tl := []) hK
  | (k, e) :: R, K, hK => by
    simp only [selK] at hK
    simp only [sel]
    cases hs : S k with
    | true =>
      rw [hs] at hK
      have := filA_spec (selK_spec hK)
      simpa [fil] using this
    | false =>
      rw [hs] at hK
      simpa using selK_spec hK
theorem fil_nil {α : Type} (l : List (Nat × α)) : fil [] l = l := by simp [fil, hasN]

variable {top j : Nat} {o : Oper} {rest : List Oper} {R : List (Nat × Ef)}
theorem AR.step {Tm : List (Nat × AV)} {Hm : List (Nat × Option Blk)} (hT : selK (mD D j) slL (HT.getD j []) R T0 some = some Tm) (hH : selK (mD D j) Ef.bl (HH.getD j []) R H0 some = some Hm) {e : Ef} (hs : OSp P l (clk + j) o ⟨n, Tm, Hm, Hp, top⟩ e)
    (hk : keyE clk M j o e = true) (ho : okE clk D j e = true) (h : AR P l Q n T0 H0 Hp clk top D HT HH M (j + 1) rest ((j, e) :: R)) : AR P l Q n T0 H0 Hp clk top D HT HH M j (o :: rest) R := by
  refine .cons (e := e) ?_ hk ho h
  have h1 := selK_spec hT
  have h2 := selK_spec hH
  cases h1; cases h2
  exact hs
theorem AR.done {Tf : List (Nat × AV)} {Hf : List (Nat × Option Blk)} (hT : selK (fun _ => true) slL [] R T0 some = some Tf) (hH : selK (fun _ => true) Ef.bl [] R H0 some = some Hf) (h : Q .normal ⟨n, Tf, Hf, Hp, top⟩) : AR P l Q n T0 H0 Hp clk top D HT HH M j [] R := by
  refine .nil ?_
  have h1 := selK_spec hT
  have h2 := selK_spec hH
  cases h1; cases h2
  unfold stR
  rw [fil_nil, fil_nil] at h
  exact h

/-! ### a guard that isn't known -/
def knR {β : Type} (t : Nat) (b' : Bool) : List (Nat × Ef) → (List (Nat × Ef) → Option β) → Option β
  | [], _ => none
  | (k, e) :: R, K => match e with
    | ⟨some (t', v), bl⟩ => bif Nat.beq t' t then K ((k, ⟨some (t, .d (.one (.bool b'))), bl⟩) :: R) else knR t b' R fun l => K ((k, ⟨some (t', v), bl⟩) :: l)
    | e => knR t b' R fun l => K ((k, e) :: l)
def lkR (t : Nat) : List (Nat × Ef) → Option AV
  | [] => none
  | (_, e) :: R => match e.sl with
    | some (t', v) => bif Nat.beq t' t then some v else lkR t R
    | none => lkR t R
theorem knR_spec {β : Type} {r : β} {t : Nat} {b : Bool} : ∀ {R : List (Nat × Ef)} {K : List (Nat × Ef) → Option β}, lkR t R = some (.d (.one (.bool b))) → knR t b R K = some r → K R = some r
  | [], K, h, hK => by simp [knR] at hK
  | (k, ⟨none, bl⟩) :: R, K, h, hK => knR_spec (K := fun l => K ((k, ⟨none, bl⟩) :: l)) (by simpa [lkR] using h) (by simpa [knR] using hK)
  | (k, ⟨some (t', v), bl⟩) :: R, K, h, hK => by
    simp only [lkR] at h
    simp only [knR] at hK
    cases hb : Nat.beq t' t with
    | true =>
      rw [hb] at h hK
      have := Nat.eq_of_beq_eq_true hb
      subst this
      simp at h
      subst h
      exact hK
    | false =>
      rw [hb] at h hK
      exact knR_spec (K := fun l => K ((k, ⟨some (t', v), bl⟩) :: l)) h hK
theorem AR.know {t : Nat} {b b' : Bool} {R' : List (Nat × Ef)} (hb : lkR t R = some (.d (.one (.bool b)))) (he : b = b') (hR : knR t b' R some = some R') (h : AR P l Q n T0 H0 Hp clk top D HT HH M j rest R') : AR P l Q n T0 H0 Hp clk top D HT HH M j rest R := by
  subst he
  have := knR_spec hb hR
  cases this
  exact h
theorem AR.guard {t : Nat} {b : Bool} {Rt Rf : List (Nat × Ef)} (_hg : gdst l o = some t) (hb : lkR t R = some (.d (.one (.bool b)))) (hRt : knR t true R some = some Rt) (hRf : knR t false R some = some Rf)
    (ht : b = true → AR P l Q n T0 H0 Hp clk top D HT HH M j (o :: rest) Rt) (hf : b = false → AR P l Q n T0 H0 Hp clk top D HT HH M j (o :: rest) Rf) : AR P l Q n T0 H0 Hp clk top D HT HH M j (o :: rest) R := by
  cases hbb : b with
  | true => exact AR.know hb hbb hRt (ht hbb)
  | false => exact AR.know hb hbb hRf (hf hbb)
end
end Go.AM
