/- A machine over pure data: part 65: what comes behind, shown once. -/
import Derived.Test.YtagdffkagpeomaaAM64
namespace Go.AM
open Go Go.RowKit
/-- What comes behind is shown once, from the state S on. -/
theorem AW.seqS {P : Program} {Q : Exit → St → Prop} {σ : St} {x y : Code} (S : St) (hy : AW P y Q S) (hx : ∀ K : St → Prop, (∀ σ, Imp σ S → K σ) → AW P x (thenQ K Q) σ) : AW P (.seq x y) Q σ :=
  AW.seq fun K hK => hx K fun σ hi => hK σ (AW.imp hi hy)
end Go.AM
