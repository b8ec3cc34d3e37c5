/- The plain statement of PacketDecodes. -/
import Derived.Test.YtbcphdbcdjdfpaaDoorZDSpa
import Derived.Test.YtbcphdbcdjdfpaaDoorZDP22
namespace Go.Proofs.YtbcphdbcdjdfpaaDoor.Pure
open Go.RowKit Go.Proofs.YtbcphdbcdjdfpaaDoor.P Go.Proofs.YtbcphdbcdjdfpaaDoorW.PrintWords Go.Proofs.YtbcphdbcdjdfpaaDoorW.PrintLast Go.Proofs.YtbcphdbcdjdfpaaDoorW.PrintMore Go.Proofs.YtbcphdbcdjdfpaaDoor.M
open Go.Proofs.YtbcphdbcdjdfpaaDoor.S
set_option linter.unusedVariables false
theorem dec_U (s : ByteArray) : U (dec s).2.2.2.2.2.1 ∧ (dec s).2.2.2.2.2.1.length ≤ 2 := by
  unfold dec
  split
  · exact ⟨U.nil, by simp [no2]⟩
  · split
    · split
      · exact ⟨U.nil, by simp [no2]⟩
      · split
        · exact ⟨dV_U s, dV_len s⟩
        · exact ⟨U.nil, by simp [no3]⟩
    · exact ⟨U.nil, by simp [no3]⟩
theorem same_self (o l k z h : Int) (v : List Int) (d : ByteArray) : sameB o l k z h v d o l k z h v d = true := by simp [sameB]
theorem PacketDecodes : bucketlinelaw07_PacketDecodes.Pure := by
  intro s hs
  refine Ev.rounds (g := fun k => bucketlinelaw07_PacketDecodes.f k s) ?_
  unfold bucketlinelaw07_PacketDecodes.f
  have hu := dec_U s
  refine Ev.bind (Decode s) (Ev.bind (rDecode s) (Ev.bind (rSame7 _ _ _ _ _ _ _ _ _ _ _ _ hu.1 hu.1 (Nat.lt_of_le_of_lt hu.2 (by decide)) (Nat.lt_of_le_of_lt hu.2 (by decide))) ?_))
  simp only [same_self, if_true]
  exact awake07'
end Go.Proofs.YtbcphdbcdjdfpaaDoor.Pure
