/- What calls of the laws come to, of whatever rows are handed in. The table math/bits.deBruijn64tab lies as the program's text lays it. -/
import Derived.Test.YtlpcphndgjibpaaDoorZGKL
import Derived.Test.YtlpcphndgjibpaaDoorZGRxV
namespace Go.Proofs.YtlpcphndgjibpaaDoor.P
open Go Go.Proofs Go.RowKit Go.Proofs.YtlpcphndgjibpaaDoor.Rx Go.Proofs.YtlpcphndgjibpaaDoorW.PrintWords Go.Proofs.YtlpcphndgjibpaaDoorW.PrintLast Go.Proofs.YtlpcphndgjibpaaDoorW.PrintMore
set_option linter.unusedVariables false
theorem relD_36 {w : World} {S : Stab} {A : Option Addr} {cap : Nat} {xs : List S36} (h : Kd.C k36 w A xs.length xs) (hc : xs.length ≤ cap) (hS : ∀ k o, k < w.heap.size → S k o) : RelD w S (est_36 Θ xs) (.slice A xs.length cap) :=
  relD_row k36 (c36 Θ) z36 h hc (by decide) hS fun x cs hx j hj => by
    obtain ⟨A0, c0, rfl, l0, g0⟩ := k36_open hx
    rcases lt_two hj with rfl | rfl
    · exact ⟨_, rfl, relD_ints g0 l0 hS⟩
    · exact ⟨_, rfl, rfl, rfl⟩
theorem bucketlinelaw18_RecodeDegrees.calls (k : Nat) (A0 : Option Addr) (c0 : Nat) (l0 : List (S36)) (A1 : Option Addr) (c1 : Nat) (l1 : List Int) (r : Bool) (w : World) (hr0 : Kd.C k36 w A0 l0.length l0) (hc0 : l0.length ≤ c0) (hr1 : Kd.C (Kd.int .i64) w A1 l1.length l1) (hc1 : l1.length ≤ c1) (h : bucketlinelaw18_RecodeDegrees.f k l0 l1 = some r) (hT : TabOk w) :
    Calls Tryd.prog 4 #[.slice A0 l0.length c0, .slice A1 l1.length c1] w fun e w' => e = .returned (.bool r) ∧ Below w.heap.size w w' :=
  calls_of_ac (vs := [.slice A0 l0.length c0, .slice A1 l1.length c1]) (ac_bucketlinelaw18_RecodeDegrees h) hT (by
    simp only [RelTs, RelT, RelC, and_true]
    exact ⟨relD_36 hr0 hc0 (fun _ _ h => h), relD_ints hr1 hc1 (fun _ _ h => h)⟩)
end Go.Proofs.YtlpcphndgjibpaaDoor.P
