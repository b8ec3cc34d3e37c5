/- The plain statement of WordsXors. -/
import Derived.Test.YtkailkcfhkooeaaDoorSwa
import Derived.Test.YtkailkcfhkooeaaDoorP6
namespace Go.Proofs.YtkailkcfhkooeaaDoor.Pure
open Go.RowKit Go.Proofs.YtkailkcfhkooeaaDoor.P Go.Proofs.YtkailkcfhkooeaaDoorW.PrintWords Go.Proofs.YtkailkcfhkooeaaDoorW.PrintLast Go.Proofs.YtkailkcfhkooeaaDoorW.PrintMore Go.Proofs.YtkailkcfhkooeaaDoor.M
open Go.Proofs.YtkailkcfhkooeaaDoor.S
set_option linter.unusedVariables false
theorem WordsXors : bucketlinelaw01_WordsXors.Pure := by
  intro a b _ _ ha _ _ hb
  have ha := U_of_wf ha
  have hb := U_of_wf hb
  refine Ev.rounds (g := fun q => bucketlinelaw01_WordsXors.f q a b) ?_
  unfold bucketlinelaw01_WordsXors.f
  have out : Ev (fun q => bucketlinelaw01_WordsXors.j0 q a b true) true := by
    refine Ev.step (fun q => ?_) awake01'
    simp only [bucketlinelaw01_WordsXors.j0, if_true]
  by_cases h1 : (a.length : Int) > 1000
  · simp only [h1, if_true]; exact out
  · simp only [h1, if_false]
    by_cases h2 : (b.length : Int) > 1000
    · have : decide ((b.length : Int) > 1000) = true := decide_eq_true h2
      simp only [this]; exact out
    · have : decide ((b.length : Int) > 1000) = false := decide_eq_false h2
      simp only [this]
      have hl := xorL_length a b
      have hx := U_xorL ha hb
      refine Ev.step (fun q => by simp only [bucketlinelaw01_WordsXors.j0, Bool.false_eq_true, if_false]; rfl) ?_
      refine Ev.bind (Xor ha hb (by omega) (by omega)) (Ev.bind (ref_Xor ha hb (by omega) (by omega)) ?_)
      refine Ev.bind (ref_Words hx hx (by omega) (by omega)) ?_
      simp only [and_self, decide_true, if_true]
      refine Ev.bind (Same ha hb (by omega) (by omega)) (Ev.bind (ref_Same ha hb (by omega) (by omega)) ?_)
      simp only [beq_self_eq_true, if_true]
      refine Ev.bind (Count ha (by omega)) (Ev.bind (ref_Count ha (by omega)) ?_)
      simp only [if_true]
      refine Ev.bind (First ha (by omega)) (Ev.bind (ref_First ha (by omega)) ?_)
      simp only [if_true]
      exact awake01'
end Go.Proofs.YtkailkcfhkooeaaDoor.Pure
