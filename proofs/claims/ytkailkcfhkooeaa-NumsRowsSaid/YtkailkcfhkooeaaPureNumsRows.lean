/- The plain statement of NumsRows. -/
import Derived.Test.YtkailkcfhkooeaaSna
import Derived.Test.YtkailkcfhkooeaaP7
namespace Go.Proofs.Ytkailkcfhkooeaa.Pure
open Go.RowKit Go.Proofs.Ytkailkcfhkooeaa.P Go.Proofs.YtkailkcfhkooeaaW.PrintWords Go.Proofs.YtkailkcfhkooeaaW.PrintLast Go.Proofs.YtkailkcfhkooeaaW.PrintMore Go.Proofs.Ytkailkcfhkooeaa.M
open Go.Proofs.Ytkailkcfhkooeaa.S
set_option linter.unusedVariables false
theorem NumsRows : bucketlinelaw06_NumsRows.Pure := by
  intro k l s hk _ _ hl hs
  have hu := U_of_wf hl
  refine Ev.rounds (g := fun q => bucketlinelaw06_NumsRows.f q k l s) ?_
  unfold bucketlinelaw06_NumsRows.f
  by_cases h : (l.length : Int) > 100
  · simp only [h, if_true]; exact awake06'
  · simp only [h, if_false]
    refine Ev.bind (PutVec (by omega)) ?_
    have hz : (strOfNums (bytesV l)).size = 8 * l.length := by rw [strOfNums_size, bytesV_length]
    have hz2 : (strOfNums (bytesV l)).size + s.size ≤ 9223372036854775807 := by omega
    simp only [hz2, if_true]
    refine Ev.bind (GetVec _ k) (Ev.bind (ref_Valid hu k) ?_)
    have hsz : (strOfNums (bytesV l) ++ s).size = 8 * l.length + s.size := by rw [bytesOf_size, bytesOf_append, List.length_append, ← bytesOf_size, ← bytesOf_size, hz]
    have hw := beWords_bytes hu s
    by_cases hv : validB k l = true
    · have hk : 1 ≤ k ∧ k ≤ 128 ∧ (l.length : Int) = (k + 63) / 64 := by
        unfold validB at hv; rw [decide_eq_true_eq] at hv; exact ⟨hv.1, hv.2.1, hv.2.2.1⟩
      have hs2 : sizeZ k = l.length := by unfold sizeZ; rw [if_pos ⟨hk.1, hk.2.1⟩]; omega
      have e : getvR (strOfNums (bytesV l) ++ s) k = (l, 0) := by
        unfold getvR
        rw [hs2, if_neg (by omega), if_neg (by rw [hsz]; omega), Int.toNat_natCast, hw, if_pos hv]
      simp only [e, hv, if_true]
      refine Ev.bind (ref_Words hu hu (by omega) (by omega)) ?_
      simp only [and_self, decide_true, if_true]
      exact awake06'
    · rw [Bool.not_eq_true] at hv
      simp only [hv, Bool.false_eq_true, if_false]
      by_cases h2 : (getvR (strOfNums (bytesV l) ++ s) k).2 = 0
      · simp only [h2, if_true]
        refine Ev.bind (ref_Size k) ?_
        by_cases h3 : sizeZ k = (l.length : Int)
        · exfalso
          unfold getvR at h2
          rw [h3, Int.toNat_natCast, hw, hv] at h2
          split at h2
          · cases h2
          · split at h2
            · cases h2
            · simp at h2
        · simp only [h3, if_false]; exact awake06'
      · simp only [h2, if_false]; exact awake06'
end Go.Proofs.Ytkailkcfhkooeaa.Pure
