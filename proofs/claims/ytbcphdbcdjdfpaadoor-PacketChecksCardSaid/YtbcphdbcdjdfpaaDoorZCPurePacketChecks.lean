/- The plain statement of PacketChecks. -/
import Derived.Test.YtbcphdbcdjdfpaaDoorZCSpa
import Derived.Test.YtbcphdbcdjdfpaaDoorZCP19
namespace Go.Proofs.YtbcphdbcdjdfpaaDoor.Pure
open Go.RowKit Go.Proofs.YtbcphdbcdjdfpaaDoor.P Go.Proofs.YtbcphdbcdjdfpaaDoorW.PrintWords Go.Proofs.YtbcphdbcdjdfpaaDoorW.PrintLast Go.Proofs.YtbcphdbcdjdfpaaDoorW.PrintMore Go.Proofs.YtbcphdbcdjdfpaaDoor.M
open Go.Proofs.YtbcphdbcdjdfpaaDoor.S
set_option linter.unusedVariables false
theorem j0_awake (o l k z h : Int) (v : List Int) (d : ByteArray) (o' l' k' z' h' : Int) (v' : List Int) (d' : ByteArray) : Ev (fun q => bucketlinelaw07_PacketChecks.j0 q true o l k z h v d o' l' k' z' h' v' d') true :=
  Ev.step (f := fun q => (bucketlinelaw07_awake.f q).bind fun t => some t) (fun q => by simp only [bucketlinelaw07_PacketChecks.j0, if_true]) awake07'
theorem PacketChecks (p : S26) (g : ((Lit.int .i64 p.f0).wf = true ∧ (Lit.int .i64 p.f1).wf = true ∧ (Lit.int .i64 p.f2).wf = true ∧ (Lit.int .i64 p.f3).wf = true ∧ (Lit.int .i64 p.f4).wf = true ∧ (p.f5.f0.length * 8 ≤ 140737488351232 ∧ ∀ a ∈ p.f5.f0, (Lit.int .u64 a).wf = true) ∧ p.f5.f1.size ≤ 140737488351232)) (q : S26) (gq : ((Lit.int .i64 q.f0).wf = true ∧ (Lit.int .i64 q.f1).wf = true ∧ (Lit.int .i64 q.f2).wf = true ∧ (Lit.int .i64 q.f3).wf = true ∧ (Lit.int .i64 q.f4).wf = true ∧ (q.f5.f0.length * 8 ≤ 140737488351232 ∧ ∀ a ∈ q.f5.f0, (Lit.int .u64 a).wf = true) ∧ q.f5.f1.size ≤ 140737488351232)) : ∃ k, bucketlinelaw07_PacketChecks.f k p.f0 p.f1 p.f2 p.f3 p.f4 p.f5.f0 p.f5.f1 q.f0 q.f1 q.f2 q.f3 q.f4 q.f5.f0 q.f5.f1 = some true := by
  refine Ev.rounds (g := fun k => bucketlinelaw07_PacketChecks.f k p.f0 p.f1 p.f2 p.f3 p.f4 p.f5.f0 p.f5.f1 q.f0 q.f1 q.f2 q.f3 q.f4 q.f5.f0 q.f5.f1) ?_
  obtain ⟨_, _, _, _, _, ⟨hl, hv⟩, hd⟩ := g
  obtain ⟨_, _, _, _, _, ⟨hl2, hv2⟩, hd2⟩ := gq
  have hu := U_of_wf hv
  have hu2 := U_of_wf hv2
  unfold bucketlinelaw07_PacketChecks.f
  simp only [few_f, Option.bind_some]
  by_cases h : p.f5.f0.length ≤ 100 ∧ p.f5.f1.size ≤ 10000
  · simp only [h, and_self, decide_true, if_true]
    by_cases h2 : q.f5.f0.length ≤ 100 ∧ q.f5.f1.size ≤ 10000
    · simp only [h2, and_self, decide_true, Bool.not_true]
      have a1 := Check p.f0 p.f1 p.f2 p.f3 p.f4 p.f5.f1 hu (by omega)
      have a2 := rCheck p.f0 p.f1 p.f2 p.f3 p.f4 p.f5.f1 hu (by omega)
      have a3 := Same7 p.f0 p.f1 p.f2 p.f3 p.f4 p.f5.f1 q.f0 q.f1 q.f2 q.f3 q.f4 q.f5.f1 hu hu2 (by omega) (by omega)
      have a4 := rSame7 p.f0 p.f1 p.f2 p.f3 p.f4 p.f5.f1 q.f0 q.f1 q.f2 q.f3 q.f4 q.f5.f1 hu hu2 (by omega) (by omega)
      refine Ev.step (fun k => by simp only [bucketlinelaw07_PacketChecks.j0, Bool.false_eq_true, if_false]; rfl) (Ev.bind a1 (Ev.bind a2 ?_))
      simp only [if_true]
      refine Ev.bind a3 (Ev.bind a4 ?_)
      simp only [beq_self_eq_true, if_true]
      exact awake07'
    · simp only [h2, decide_false, Bool.not_false]
      exact j0_awake ..
  · simp only [h, decide_false, Bool.false_eq_true, if_false]
    exact j0_awake ..
end Go.Proofs.YtbcphdbcdjdfpaaDoor.Pure
