/- The plain statement of NumsPuts. -/
import Derived.Test.YtkailkcfhkooeaaSna
import Derived.Test.YtkailkcfhkooeaaP5
namespace Go.Proofs.Ytkailkcfhkooeaa.Pure
open Go.RowKit Go.Proofs.Ytkailkcfhkooeaa.P Go.Proofs.YtkailkcfhkooeaaW.PrintWords Go.Proofs.YtkailkcfhkooeaaW.PrintLast Go.Proofs.YtkailkcfhkooeaaW.PrintMore Go.Proofs.Ytkailkcfhkooeaa.M
open Go.Proofs.Ytkailkcfhkooeaa.S
set_option linter.unusedVariables false
theorem NumsPuts : bucketlinelaw06_NumsPuts.Pure := by
  intro n w l _ _ _ _ _
  refine Ev.rounds (g := fun k => bucketlinelaw06_NumsPuts.f k n w l) ?_
  unfold bucketlinelaw06_NumsPuts.f
  by_cases h : (l.length : Int) > 1000
  · simp only [h, if_true]; exact Ev.now _
  · simp only [h, if_false]
    refine Ev.bind (Put n w) (Ev.bind (rPut n w) ?_)
    simp only [if_true]
    refine Ev.bind (PutVec (by omega)) (Ev.bind (rPutVec (by omega)) ?_)
    simp only [if_true]
    exact awake06'
end Go.Proofs.Ytkailkcfhkooeaa.Pure
