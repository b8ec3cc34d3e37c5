/- The laws' guards: few rows, few packets. -/
import Derived.Test.YtlpcphndgjibpaaDoorZGSmx
import Derived.Test.YtlpcphndgjibpaaDoorZGF
namespace Go.Proofs.YtlpcphndgjibpaaDoor.S
open Go.RowKit Go.Proofs.YtlpcphndgjibpaaDoor.P Go.Proofs.YtlpcphndgjibpaaDoorW.PrintWords Go.Proofs.YtlpcphndgjibpaaDoorW.PrintLast Go.Proofs.YtlpcphndgjibpaaDoorW.PrintMore Go.Proofs.YtlpcphndgjibpaaDoor.M
set_option linter.unusedVariables false
set_option linter.unusedSimpArgs false
def okR (r : SR) : Bool := decide (r.f0.length ≤ 10 ∧ r.f1.size ≤ 1000)
theorem Few02_loop {l : List SR} (hn : l.length ≤ 300) (e : Nat) : ∀ i : Nat, i + e = l.length → Ev (fun q => bucketlinelaw02_Few.l0 q l (i : Int)) (if (l.drop i).all okR = true then 1 else 0) := by
  induction e with
  | zero =>
    intro i hi
    rw [List.drop_of_length_le (by omega)]
    refine Ev.step (f := fun _ => some 1) (fun q => ?_) (Ev.now _)
    simp only [bucketlinelaw02_Few.l0]; rw [if_neg (by omega)]
  | succ e ih =>
    intro i hi
    have hlt : i < l.length := by omega
    have eI : rd_T36 l (i : Int) = l.getD i z36 := by unfold rd_T36; rw [Int.toNat_natCast]
    rw [drop_getD z36 hlt, List.all_cons]
    generalize l.getD i z36 = r at eI
    have h3 := ih (i + 1) (by omega)
    by_cases h1 : r.f0.length ≤ 10
    · by_cases h2 : r.f1.size ≤ 1000
      · have : okR r = true := decide_eq_true ⟨h1, h2⟩
        rw [this, Bool.true_and]
        refine Ev.step (fun q => ?_) h3
        simp only [bucketlinelaw02_Few.l0, eI]
        rw [if_pos (by omega), if_pos (by omega), if_neg (by omega), if_neg (by omega), w64 (by omega) (by omega), show (i : Int) + 1 = ((i + 1 : Nat) : Int) by omega]
      · have : okR r = false := decide_eq_false fun h => h2 h.2
        rw [this, Bool.false_and, if_neg (by decide)]
        refine Ev.step (f := fun _ => some 0) (fun q => ?_) (Ev.now _)
        simp only [bucketlinelaw02_Few.l0, eI]
        rw [if_pos (by omega), if_pos (by omega), if_neg (by omega), if_pos (by omega)]
    · have : okR r = false := decide_eq_false fun h => h1 h.1
      rw [this, Bool.false_and, if_neg (by decide)]
      refine Ev.step (f := fun _ => some 0) (fun q => ?_) (Ev.now _)
      simp only [bucketlinelaw02_Few.l0, eI]
      rw [if_pos (by omega), if_pos (by omega), if_pos (by omega)]
theorem Few02 (l : List SR) : Ev (fun q => bucketlinelaw02_Few.f q l) (if l.length ≤ 300 ∧ l.all okR = true then 1 else 0) := by
  unfold bucketlinelaw02_Few.f
  by_cases h : l.length ≤ 300
  · have h2 : ¬ (l.length : Int) > 300 := by omega
    simp only [h2, if_false, h, true_and]
    exact Few02_loop h l.length 0 (by omega)
  · have h2 : (l.length : Int) > 300 := by omega
    rw [if_neg fun t => h t.1]
    simp only [h2, if_true]; exact Ev.now _
theorem good02 {l : List SR} (hu : ∀ r ∈ l, U r.f0) (h : l.all okR = true) : ∀ r ∈ l, GoodR r := fun r hr => by
  have := of_decide_eq_true (List.all_eq_true.1 h r hr)
  exact ⟨hu r hr, by omega, by omega⟩
def okP16 (p : SP) : Bool := decide (p.f5.f0.length ≤ 10 ∧ p.f5.f1.size ≤ 1000)
end Go.Proofs.YtlpcphndgjibpaaDoor.S
