/- The plain statement of PacketEncodes. -/
import Derived.Test.YtbcphdbcdjdfpaaDoorZESpa
import Derived.Test.YtbcphdbcdjdfpaaDoorZEP20
namespace Go.Proofs.YtbcphdbcdjdfpaaDoor.Pure
open Go.RowKit Go.Proofs.YtbcphdbcdjdfpaaDoor.P Go.Proofs.YtbcphdbcdjdfpaaDoorW.PrintWords Go.Proofs.YtbcphdbcdjdfpaaDoorW.PrintLast Go.Proofs.YtbcphdbcdjdfpaaDoorW.PrintMore Go.Proofs.YtbcphdbcdjdfpaaDoor.M
open Go.Proofs.YtbcphdbcdjdfpaaDoor.S
set_option linter.unusedVariables false
theorem PacketEncodes (p : S26) (g : ((Lit.int .i64 p.f0).wf = true ∧ (Lit.int .i64 p.f1).wf = true ∧ (Lit.int .i64 p.f2).wf = true ∧ (Lit.int .i64 p.f3).wf = true ∧ (Lit.int .i64 p.f4).wf = true ∧ (p.f5.f0.length * 8 ≤ 140737488351232 ∧ ∀ a ∈ p.f5.f0, (Lit.int .u64 a).wf = true) ∧ p.f5.f1.size ≤ 140737488351232)) : ∃ k, bucketlinelaw07_PacketEncodes.f k p.f0 p.f1 p.f2 p.f3 p.f4 p.f5.f0 p.f5.f1 = some true := by
  refine Ev.rounds (g := fun k => bucketlinelaw07_PacketEncodes.f k p.f0 p.f1 p.f2 p.f3 p.f4 p.f5.f0 p.f5.f1) ?_
  obtain ⟨_, _, _, _, _, ⟨hl, hv⟩, hd⟩ := g
  have hu := U_of_wf hv
  unfold bucketlinelaw07_PacketEncodes.f
  simp only [few_f, Option.bind_some]
  by_cases h : p.f5.f0.length ≤ 100 ∧ p.f5.f1.size ≤ 10000
  · simp only [h, and_self, decide_true, if_true]
    refine Ev.bind (Encode _ _ _ _ _ _ hu (by omega)) (Ev.bind (rEncode _ _ _ _ _ _ hu (by omega)) ?_)
    simp only [if_true]
    exact awake07'
  · simp only [h, decide_false, Bool.false_eq_true, if_false]
    exact awake07'
end Go.Proofs.YtbcphdbcdjdfpaaDoor.Pure
