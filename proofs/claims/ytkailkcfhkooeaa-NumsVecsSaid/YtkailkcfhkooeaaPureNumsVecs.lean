/- The plain statement of NumsVecs. -/
import Derived.Test.YtkailkcfhkooeaaSna
import Derived.Test.YtkailkcfhkooeaaP6
namespace Go.Proofs.Ytkailkcfhkooeaa.Pure
open Go.RowKit Go.Proofs.Ytkailkcfhkooeaa.P Go.Proofs.YtkailkcfhkooeaaW.PrintWords Go.Proofs.YtkailkcfhkooeaaW.PrintLast Go.Proofs.YtkailkcfhkooeaaW.PrintMore Go.Proofs.Ytkailkcfhkooeaa.M
open Go.Proofs.Ytkailkcfhkooeaa.S
set_option linter.unusedVariables false
theorem NumsVecs : bucketlinelaw06_NumsVecs.Pure := by
  intro s k _ _
  refine Ev.rounds (g := fun q => bucketlinelaw06_NumsVecs.f q s k) ?_
  unfold bucketlinelaw06_NumsVecs.f
  refine Ev.bind (GetVec s k) (Ev.bind (rGetVec s k) ?_)
  have hu := getvR_U s k
  have hl := getvR_len s k
  refine Ev.bind (ref_Words hu hu (by omega) (by omega)) ?_
  simp only [and_self, decide_true, if_true]
  exact awake06'
end Go.Proofs.Ytkailkcfhkooeaa.Pure
