/- A machine over pure data: part 70: a call that returns or panics. -/
import Derived.Test.YtagdffkagpeomaaAM69
set_option linter.unusedVariables false
set_option linter.unusedSimpArgs false
namespace Go.AM
open Go Go.RowKit

/-- Handed the variables Hp, and the rows Hg for good; it returns, as R says, or panics, as RP says. -/
def ACallsXB (P : Program) (f : FuncId) (args : List AV) (Hp : List Blk) (Hg : List Rw) (R : AV → List Blk → List Rw → Prop) (RP : List PanicEntry → List Blk → List Rw → Prop) : Prop :=
  Callable P f ∧ ∀ c vs ρ, IniX c args Hp Hg vs ρ → Calls P f vs c.w0 fun e w' => (∃ r Hp' Hr v ρ O, R r Hp' Hr ∧ e = .returned v ∧ FinAt c r Hp' Hr v w' ρ O) ∨ ∃ ch Hp' Hr v ρ O, RP ch Hp' Hr ∧ e = .panicked ch ∧ FinAt c .junk Hp' Hr v w' ρ O
theorem ACallsXB.body {P : Program} {ts : List (Nat × TI)} (hT : TOK P ts) {f : FuncId} {fn : Func} {code : Code} {args : List AV} {Hp : List Blk} {Hg : List Rw} {R : AV → List Blk → List Rw → Prop} {RP : List PanicEntry → List Blk → List Rw → Prop}
    (hf : P.funcs[f]? = some fn) (hb : fn.body = some code) (hname : (fn.name == "runtime.NumGoroutine") = false) (hn : args.length ≤ fn.ntmps)
    (h : AW P code (retX ts fn.results.toList R RP) ⟨fn.ntmps, argT 0 args, rowsH 0 Hg, Hp, Hg.length⟩) : ACallsXB P f args Hp Hg R RP := by
  refine ⟨⟨fn, hf, hname, by rw [hb]; rfl⟩, fun c vs ρ hi => ?_⟩
  have hs := inix_sat hi fn.ntmps hn
  refine calls_of_wp hf hb (wp_mono (h c _ _ ⟨_, _, hs⟩) ?_)
  have fin : ∀ a w σ, (∃ rf r Hp' Hr mm, ares ts fn.results.toList σ = some rf ∧ mp2 [] mm r = rf ∧ okm2 Hp'.length mm.length r = true ∧ OutX σ (R r) Hp' Hr mm) → Sat c σ a w →
      a.defers = [] ∧ ∃ v, (results fn a.tmps).run P w = .ok v w ∧ ((∃ r Hp' Hr v' ρ O, R r Hp' Hr ∧ Ending.returned v = .returned v' ∧ FinAt c r Hp' Hr v' w ρ O) ∨ ∃ ch Hp' Hr v' ρ O, RP ch Hp' Hr ∧ Ending.returned v = .panicked ch ∧ FinAt c .junk Hp' Hr v' w ρ O) := by
    intro a w σ hq hs'
    obtain ⟨v, h1, r, Hp', Hr, ρ, O, h2, h3⟩ := retX_fin hT hs' hq
    obtain ⟨ρ', O', hs''⟩ := hs'
    exact ⟨hs''.defers.trans hi.df, v, h1, .inl ⟨r, Hp', Hr, v, ρ, O, h2, rfl, h3⟩⟩
  rintro e a w ⟨σ, hq, hs'⟩
  cases e with
  | normal => exact fin a w σ hq hs'
  | ret => exact fin a w σ hq hs'
  | exit id => exact hq.elim
  | goto l => exact hq.elim
  | panic ch =>
    obtain ⟨Hp', Hr, mm, ho⟩ := hq
    obtain ⟨ρ', O', hs''⟩ := hs'
    exact ⟨hs''.defers.trans hi.df, .inr ⟨ch, Hp', Hr, undef, _, O', ho.post, rfl, outX_fin hs'' ho (.junk _)⟩⟩
  | outgrown => exact hq.elim
theorem ACallsXB.ret {P : Program} {f : FuncId} {args : List AV} {Hp : List Blk} {Hg : List Rw} {R : AV → List Blk → List Rw → Prop} {RP : List PanicEntry → List Blk → List Rw → Prop} (h : ACallsXB P f args Hp Hg R RP) (hno : ∀ ch Hp' Hr, ¬ RP ch Hp' Hr) : ACallsX P f args Hp Hg R := by
  refine ⟨h.1, fun c vs ρ hi => (h.2 c vs ρ hi).mono ?_⟩
  rintro e w (h | ⟨ch, Hp', Hr, _, _, _, h, _⟩)
  · exact h
  · exact (hno _ _ _ h).elim
theorem ACallsXB.pan {P : Program} {f : FuncId} {args : List AV} {Hp : List Blk} {Hg : List Rw} {R : AV → List Blk → List Rw → Prop} {RP : List PanicEntry → List Blk → List Rw → Prop} (h : ACallsXB P f args Hp Hg R RP) {ch : List PanicEntry} {R' : List Blk → List Rw → Prop} (hno : ∀ r Hp' Hr, ¬ R r Hp' Hr) (hp : ∀ ch' Hp' Hr, RP ch' Hp' Hr → ch' = ch ∧ R' Hp' Hr) : ACallsXP P f args Hp Hg ch R' := by
  refine ⟨h.1, fun c vs ρ hi => (h.2 c vs ρ hi).mono ?_⟩
  rintro e w (⟨r, Hp', Hr, _, _, _, h, _⟩ | ⟨ch', Hp', Hr, v, ρ', O, h, e1, e2⟩)
  · exact (hno _ _ _ h).elim
  · obtain ⟨rfl, h2⟩ := hp _ _ _ h
    exact ⟨Hp', Hr, v, ρ', O, h2, e1, e2⟩
end Go.AM
