/- The plain statement of RecodeDegrees. -/
import Derived.Test.YtlpcphndgjibpaaDoorZGSm
import Derived.Test.YtlpcphndgjibpaaDoorZGSf
namespace Go.Proofs.YtlpcphndgjibpaaDoor.Pure
open Go.RowKit Go.Proofs.YtlpcphndgjibpaaDoor.P Go.Proofs.YtlpcphndgjibpaaDoorW.PrintWords Go.Proofs.YtlpcphndgjibpaaDoorW.PrintLast Go.Proofs.YtlpcphndgjibpaaDoorW.PrintMore Go.Proofs.YtlpcphndgjibpaaDoor.M
open Go.Proofs.YtlpcphndgjibpaaDoor.S
theorem deg_yes (x0 : List S36) (x1 : List Int) : Ev (fun q => bucketlinelaw18_RecodeDegrees.j0 q x0 x1 true) true :=
  Ev.step (f := fun _ => some true) (fun q => by simp only [bucketlinelaw18_RecodeDegrees.j0, if_true]; rfl) (Ev.now _)
theorem RecodeDegrees (x0 : List S36) (g0 : x0.length * 40 ≤ 140737488351232 ∧ ∀ r ∈ x0, ((r.f0.length * 8 ≤ 140737488351232 ∧ ∀ a ∈ r.f0, (Lit.int .u64 a).wf = true) ∧ r.f1.size ≤ 140737488351232)) (x1 : List Int) (g1 : x1.length * 8 ≤ 140737488351232 ∧ ∀ a ∈ x1, (Lit.int .i64 a).wf = true) : ∃ k, bucketlinelaw18_RecodeDegrees.f k x0 x1 = some true := by
  refine Ev.rounds (g := fun k => bucketlinelaw18_RecodeDegrees.f k x0 x1) ?_
  have hu : ∀ r ∈ x0, U r.f0 := fun r hr => U_of_wf (g0.2 r hr).1.2
  unfold bucketlinelaw18_RecodeDegrees.f
  refine Ev.bind (Few02 x0) ?_
  by_cases h : x0.length ≤ 300 ∧ x0.all okR = true
  · rw [if_pos h]
    have hg := good02 hu h.2
    simp only [show ¬ ((1 : Int) = 0) by decide, if_false]
    by_cases hw : x1.length ≤ 300
    · rw [show decide ((x1.length : Int) > 300) = false from decide_eq_false (by omega)]
      refine Ev.step (f := fun q => (recode_Degree.f q x0 x1).bind fun t253 => ((bucketlineref18_Degree.f q x0 x1).bind fun t254 => (if t253 = t254 then ((bucketlinelaw18_awake.f).bind fun t255 => (some t255)) else (none)))) (fun q => by simp only [bucketlinelaw18_RecodeDegrees.j0, Bool.false_eq_true, if_false]) (Ev.bind (Degree hg (by omega) (by omega)) (Ev.bind (rDegree hg (by omega) (by omega)) ?_))
      simp only [if_true]
      exact Ev.now _
    · rw [show decide ((x1.length : Int) > 300) = true from decide_eq_true (by omega)]
      exact deg_yes x0 x1
  · rw [if_neg h]
    simp only [if_true]
    exact deg_yes x0 x1
end Go.Proofs.YtlpcphndgjibpaaDoor.Pure
