/- The plain statement of WordsSizes. -/
import Derived.Test.YtkailkcfhkooeaaDoorSwa
import Derived.Test.YtkailkcfhkooeaaDoorP5
namespace Go.Proofs.YtkailkcfhkooeaaDoor.Pure
open Go.RowKit Go.Proofs.YtkailkcfhkooeaaDoor.P Go.Proofs.YtkailkcfhkooeaaDoorW.PrintWords Go.Proofs.YtkailkcfhkooeaaDoorW.PrintLast Go.Proofs.YtkailkcfhkooeaaDoorW.PrintMore Go.Proofs.YtkailkcfhkooeaaDoor.M
open Go.Proofs.YtkailkcfhkooeaaDoor.S
set_option linter.unusedVariables false
theorem WordsSizes : bucketlinelaw01_WordsSizes.Pure := by
  intro k i v _ hi _ hr hv
  have hu := U_of_wf hv
  have hi := i64_of_wf hi
  refine Ev.rounds (g := fun q => bucketlinelaw01_WordsSizes.f q k i v) ?_
  unfold bucketlinelaw01_WordsSizes.f
  rw [words_Size, words_Valid hu]
  simp only [Option.bind_some]
  refine Ev.bind (ref_Size k) ?_
  simp only [if_true]
  refine Ev.bind (ref_Valid hu k) ?_
  simp only [beq_self_eq_true, if_true]
  refine Ev.bind (words_Unit hi.1 hi.2) (Ev.bind (ref_Unit hi.1 hi.2) ?_)
  have hl := unitL_len k i
  refine Ev.bind (ref_Words (unitL_U k i) (unitL_U k i) (by omega) (by omega)) ?_
  simp only [and_self, decide_true, if_true]
  exact awake01'
end Go.Proofs.YtkailkcfhkooeaaDoor.Pure
