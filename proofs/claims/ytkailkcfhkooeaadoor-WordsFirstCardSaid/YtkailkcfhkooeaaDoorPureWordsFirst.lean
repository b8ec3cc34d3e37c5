/- The plain statement of WordsFirst. -/
import Derived.Test.YtkailkcfhkooeaaDoorSwa
import Derived.Test.YtkailkcfhkooeaaDoorP7
namespace Go.Proofs.YtkailkcfhkooeaaDoor.Pure
open Go.RowKit Go.Proofs.YtkailkcfhkooeaaDoor.P Go.Proofs.YtkailkcfhkooeaaDoorW.PrintWords Go.Proofs.YtkailkcfhkooeaaDoorW.PrintLast Go.Proofs.YtkailkcfhkooeaaDoorW.PrintMore Go.Proofs.YtkailkcfhkooeaaDoor.M
open Go.Proofs.YtkailkcfhkooeaaDoor.S
set_option linter.unusedVariables false
theorem first_loop {v : List Int} (hu : U v) (hl : v.length ≤ 100) (h0 : val v ≠ 0) (d : Nat) : ∀ i : Nat, i + d = low (val v) → Ev (fun q => bucketlinelaw01_WordsFirst.l0 q v ((low (val v) : Nat) : Int) (i : Int)) true := by
  have hlow : low (val v) < 64 * v.length := by
    rcases Nat.lt_or_ge (low (val v)) (64 * v.length) with h | h
    · exact h
    · have := (low_spec h0).1
      rw [Nat.testBit_lt_two_pow (Nat.lt_of_lt_of_le (val_lt hu) (Nat.pow_le_pow_right (by decide) h))] at this
      cases this
  have hc := cnt_val_le hu
  induction d with
  | zero =>
    intro i hi
    have hs := words_Set hu (by omega) (i := ((low (val v) : Nat) : Int)) (by omega) (by omega) false
    have hU := setL_U hu ((low (val v) : Nat) : Int) false
    have hL := setL_length v ((low (val v) : Nat) : Int) false
    have e : cnt (val v) = cnt (val (setL v ((low (val v) : Nat) : Int) false)) + 1 := cnt_clear (low (val v)) _ _ (low_spec h0).1 fun j => testBit_setL hu _ _ (by omega) j
    refine Ev.step (f := fun q => (words_Set.f q v ((low (val v) : Nat) : Int) false).bind fun t => (words_Count.f q t).bind fun a => (words_Count.f q v).bind fun b => if a = wrap64 (b - 1) then (bucketlinelaw01_awake.f q).bind (fun t => some t) else some false) (fun q => ?_) (Ev.bind hs (Ev.bind (Count hU (by omega)) (Ev.bind (Count hu (by omega)) ?_)))
    · simp only [bucketlinelaw01_WordsFirst.l0]
      rw [if_neg (by omega), words_Get hu (by omega) (by omega)]
      simp only [Option.bind_some, getB, Int.toNat_natCast, (low_spec h0).1]
      rw [if_pos (by simp)]
    · rw [w64 (by omega) (by omega)]
      have : ((cnt (val (setL v ((low (val v) : Nat) : Int) false)) : Nat) : Int) = (cnt (val v) : Int) - 1 := by omega
      simp only [this, if_true]
      exact awake01'
  | succ d ih =>
    intro i hi
    refine Ev.step (fun q => ?_) (ih (i + 1) (by omega))
    simp only [bucketlinelaw01_WordsFirst.l0]
    rw [if_pos (by omega), words_Get hu (by omega) (by omega)]
    simp only [Option.bind_some, getB, Int.toNat_natCast, (low_spec h0).2 i (by omega)]
    rw [if_neg (by simp), w64 (by omega) (by omega), show (i : Int) + 1 = ((i + 1 : Nat) : Int) by omega]
theorem WordsFirst : bucketlinelaw01_WordsFirst.Pure := by
  intro v _ _ hv
  have hu := U_of_wf hv
  refine Ev.rounds (g := fun q => bucketlinelaw01_WordsFirst.f q v) ?_
  unfold bucketlinelaw01_WordsFirst.f
  by_cases h1 : (v.length : Int) > 100
  · simp only [h1, if_true]; exact awake01'
  · simp only [h1, if_false]
    refine Ev.bind (First hu (by omega)) ?_
    by_cases h0 : val v = 0
    · have : firstZ (val v) < 0 := firstZ_neg.2 h0
      simp only [this, if_true]
      refine Ev.bind (Count hu (by omega)) ?_
      rw [h0, cnt_zero]
      simp only [Int.natCast_zero, if_true]
      exact awake01'
    · have : ¬ firstZ (val v) < 0 := fun h => h0 (firstZ_neg.1 h)
      simp only [this, if_false]
      have e : firstZ (val v) = ((low (val v) : Nat) : Int) := by unfold firstZ; rw [if_neg h0]
      rw [e]
      exact first_loop hu (by omega) h0 _ 0 (Nat.zero_add _)
end Go.Proofs.YtkailkcfhkooeaaDoor.Pure
