/- The plain statement of WordsBits. -/
import Derived.Test.YtkailkcfhkooeaaDoorSwa
import Derived.Test.YtkailkcfhkooeaaDoorP5
namespace Go.Proofs.YtkailkcfhkooeaaDoor.Pure
open Go.RowKit Go.Proofs.YtkailkcfhkooeaaDoor.P Go.Proofs.YtkailkcfhkooeaaDoorW.PrintWords Go.Proofs.YtkailkcfhkooeaaDoorW.PrintLast Go.Proofs.YtkailkcfhkooeaaDoorW.PrintMore Go.Proofs.YtkailkcfhkooeaaDoor.M
open Go.Proofs.YtkailkcfhkooeaaDoor.S
set_option linter.unusedVariables false
theorem WordsBits : bucketlinelaw01_WordsBits.Pure := by
  intro v i on _ hr hv hi
  have hu := U_of_wf hv
  have hi := i64_of_wf hi
  refine Ev.rounds (g := fun q => bucketlinelaw01_WordsBits.f q v i on) ?_
  unfold bucketlinelaw01_WordsBits.f
  by_cases h : (v.length : Int) > 1000
  · simp only [h, if_true]; exact Ev.now _
  · simp only [h, if_false]
    rw [words_Get hu hi.1 hi.2, ref_Get hu hi.1 hi.2, ref_Set hu (by omega) hi.1 hi.2]
    simp only [Option.bind_some, beq_self_eq_true, if_true]
    refine Ev.bind (words_Set hu (by omega) hi.1 hi.2 on) ?_
    have hl := setL_length v i on
    refine Ev.bind (ref_Words (setL_U hu i on) (setL_U hu i on) (by omega) (by omega)) ?_
    simp only [and_self, decide_true, if_true]
    exact awake01'
end Go.Proofs.YtkailkcfhkooeaaDoor.Pure
