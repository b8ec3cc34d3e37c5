/- The plain statement of WordsTwice. -/
import Derived.Test.YtkailkcfhkooeaaDoorSwa
import Derived.Test.YtkailkcfhkooeaaDoorP6
namespace Go.Proofs.YtkailkcfhkooeaaDoor.Pure
open Go.RowKit Go.Proofs.YtkailkcfhkooeaaDoor.P Go.Proofs.YtkailkcfhkooeaaDoorW.PrintWords Go.Proofs.YtkailkcfhkooeaaDoorW.PrintLast Go.Proofs.YtkailkcfhkooeaaDoorW.PrintMore Go.Proofs.YtkailkcfhkooeaaDoor.M
open Go.Proofs.YtkailkcfhkooeaaDoor.S
set_option linter.unusedVariables false
theorem WordsTwice : bucketlinelaw01_WordsTwice.Pure := by
  intro a b _ _ ha _ _ hb
  have ha := U_of_wf ha
  have hb := U_of_wf hb
  refine Ev.rounds (g := fun q => bucketlinelaw01_WordsTwice.f q a b) ?_
  unfold bucketlinelaw01_WordsTwice.f
  have out : Ev (fun q => bucketlinelaw01_WordsTwice.j0 q a b true) true := by
    refine Ev.step (fun q => ?_) awake01'
    simp only [bucketlinelaw01_WordsTwice.j0, if_true]
  by_cases h1 : (a.length : Int) > 1000
  · simp only [h1, if_true]; exact out
  · simp only [h1, if_false]
    by_cases h2 : (b.length : Int) > 1000
    · have : decide ((b.length : Int) > 1000) = true := decide_eq_true h2
      simp only [this]; exact out
    · have : decide ((b.length : Int) > 1000) = false := decide_eq_false h2
      simp only [this]
      have hx := U_xorL ha hb
      have hl := xorL_length a b
      have hl2 := xorL_length (xorL a b) b
      have hl3 := xorL_length b a
      have hl4 := xorL_length a a
      refine Ev.step (fun q => by simp only [bucketlinelaw01_WordsTwice.j0, Bool.false_eq_true, if_false]; rfl) ?_
      refine Ev.bind (Xor ha hb (by omega) (by omega)) (Ev.bind (Xor hx hb (by omega) (by omega)) ?_)
      refine Ev.bind (Same (U_xorL hx hb) ha (by omega) (by omega)) ?_
      have e1 : val (xorL (xorL a b) b) = val a := by rw [val_xorL hx hb, val_xorL ha hb, Nat.xor_assoc, Nat.xor_self, Nat.xor_zero]
      have e2 : val (xorL a b) = val (xorL b a) := by rw [val_xorL ha hb, val_xorL hb ha, Nat.xor_comm]
      have e3 : val (xorL a a) = 0 := by rw [val_xorL ha ha, Nat.xor_self]
      simp only [e1, decide_true, if_true]
      refine Ev.bind (Xor ha hb (by omega) (by omega)) (Ev.bind (Xor hb ha (by omega) (by omega)) ?_)
      refine Ev.bind (Same hx (U_xorL hb ha) (by omega) (by omega)) ?_
      simp only [e2, decide_true, if_true]
      refine Ev.bind (Xor ha ha (by omega) (by omega)) (Ev.bind (Count (U_xorL ha ha) (by omega)) ?_)
      rw [e3, cnt_zero]
      simp only [Int.natCast_zero, if_true]
      exact awake01'
end Go.Proofs.YtkailkcfhkooeaaDoor.Pure
