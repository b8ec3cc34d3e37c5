/- The plain statement of PacketBack. -/
import Derived.Test.YtbcphdbcdjdfpaaDoorZBSpb
import Derived.Test.YtbcphdbcdjdfpaaDoorZBP22
namespace Go.Proofs.YtbcphdbcdjdfpaaDoor.Pure
open Go.RowKit Go.Proofs.YtbcphdbcdjdfpaaDoor.P Go.Proofs.YtbcphdbcdjdfpaaDoorW.PrintWords Go.Proofs.YtbcphdbcdjdfpaaDoorW.PrintLast Go.Proofs.YtbcphdbcdjdfpaaDoorW.PrintMore Go.Proofs.YtbcphdbcdjdfpaaDoor.M
open Go.Proofs.YtbcphdbcdjdfpaaDoor.S
set_option linter.unusedVariables false
theorem dec_U' (s : ByteArray) : U (dec s).2.2.2.2.2.1 ∧ (dec s).2.2.2.2.2.1.length ≤ 2 := by
  unfold dec
  split
  · exact ⟨U.nil, by simp [no2]⟩
  · split
    · split
      · exact ⟨U.nil, by simp [no2]⟩
      · split
        · exact ⟨dV_U s, dV_len s⟩
        · exact ⟨U.nil, by simp [no3]⟩
    · exact ⟨U.nil, by simp [no3]⟩
theorem back_j0 (s : ByteArray) : Ev (fun q => bucketlinelaw07_PacketBack.j0 q s false) true := by
  have hu := dec_U' s
  refine Ev.step (fun q => by simp only [bucketlinelaw07_PacketBack.j0, Bool.false_eq_true, if_false]; rfl) (Ev.bind (Decode s) (Ev.bind (Encode _ _ _ _ _ _ hu.1 (Nat.le_trans hu.2 (by decide))) ?_))
  by_cases h : (dec s).2.2.2.2.2.2.2 = 0
  · obtain ⟨o, l, k, z, h', v, d, e, p, hu, hl, hs⟩ := dec_back h
    simp only [e, encR_yes p, hs, if_true]
    exact awake07'
  · simp only [h, if_false]
    exact awake07'
theorem PacketBack (p : S26) (g : ((Lit.int .i64 p.f0).wf = true ∧ (Lit.int .i64 p.f1).wf = true ∧ (Lit.int .i64 p.f2).wf = true ∧ (Lit.int .i64 p.f3).wf = true ∧ (Lit.int .i64 p.f4).wf = true ∧ (p.f5.f0.length * 8 ≤ 140737488351232 ∧ ∀ a ∈ p.f5.f0, (Lit.int .u64 a).wf = true) ∧ p.f5.f1.size ≤ 140737488351232)) (s : ByteArray) (hs : s.size ≤ 140737488351232) : ∃ k, bucketlinelaw07_PacketBack.f k p.f0 p.f1 p.f2 p.f3 p.f4 p.f5.f0 p.f5.f1 s = some true := by
  refine Ev.rounds (g := fun k => bucketlinelaw07_PacketBack.f k p.f0 p.f1 p.f2 p.f3 p.f4 p.f5.f0 p.f5.f1 s) ?_
  obtain ⟨_, _, _, _, _, ⟨hl, hv⟩, hd⟩ := g
  have hu := U_of_wf hv
  unfold bucketlinelaw07_PacketBack.f
  simp only [few_f, Option.bind_some]
  by_cases h : p.f5.f0.length ≤ 100 ∧ p.f5.f1.size ≤ 10000
  · simp only [h, and_self, decide_true, if_true]
    refine Ev.bind (Encode _ _ _ _ _ _ hu (by omega)) (Ev.bind (Decode _) ?_)
    by_cases ok : OkP p.f0 p.f1 p.f2 p.f3 p.f4 p.f5.f0 p.f5.f1
    · simp only [encR_yes ok, dec_enc hu ok, if_true]
      refine Ev.bind (rSame7 _ _ _ _ _ _ _ _ _ _ _ _ hu hu (by omega) (by omega)) ?_
      have : sameB p.f0 p.f1 p.f2 p.f3 p.f4 p.f5.f0 p.f5.f1 p.f0 p.f1 p.f2 p.f3 p.f4 p.f5.f0 p.f5.f1 = true := by simp [sameB]
      simp only [this, Bool.not_true]
      exact back_j0 s
    · simp only [encR_no ok, show ¬ (1 : Int) = 0 by decide, if_false]
      exact back_j0 s
  · simp only [h, decide_false, Bool.false_eq_true, if_false]
    exact awake07'
end Go.Proofs.YtbcphdbcdjdfpaaDoor.Pure
