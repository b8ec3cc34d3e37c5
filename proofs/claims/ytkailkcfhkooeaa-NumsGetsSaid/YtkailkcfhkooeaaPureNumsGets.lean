/- The plain statement of NumsGets. -/
import Derived.Test.YtkailkcfhkooeaaSna
import Derived.Test.YtkailkcfhkooeaaP5
namespace Go.Proofs.Ytkailkcfhkooeaa.Pure
open Go.RowKit Go.Proofs.Ytkailkcfhkooeaa.P Go.Proofs.YtkailkcfhkooeaaW.PrintWords Go.Proofs.YtkailkcfhkooeaaW.PrintLast Go.Proofs.YtkailkcfhkooeaaW.PrintMore Go.Proofs.Ytkailkcfhkooeaa.M
open Go.Proofs.Ytkailkcfhkooeaa.S
set_option linter.unusedVariables false
theorem NumsGets : bucketlinelaw06_NumsGets.Pure := by
  intro s w _ hw
  refine Ev.rounds (g := fun k => bucketlinelaw06_NumsGets.f k s w) ?_
  unfold bucketlinelaw06_NumsGets.f
  refine Ev.bind (Get s hw) (Ev.bind (rGet s hw) ?_)
  simp only [if_true]
  exact awake06'
end Go.Proofs.Ytkailkcfhkooeaa.Pure
