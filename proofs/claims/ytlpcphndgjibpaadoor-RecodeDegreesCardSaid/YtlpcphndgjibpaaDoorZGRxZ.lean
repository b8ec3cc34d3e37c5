/- The walk of math/bits.TrailingZeros64 over its table, and its contract. The table lies as the program's text lays it. -/
import Derived.Below
import Derived.Deep.Draws
import Derived.Deep.AppendLies
import Derived.Maps.AppendAt
import Derived.OwnWalk
import Derived.Laws.BytesArg
import Derived.Laws.MakeOwn
import Derived.Laws.OwnMore
import Derived.Deep.OwnRows
import Derived.Tactics
import Derived.Lib.ConvBytes
import Derived.Laws.Slices
import Derived.WalkKit
import Derived.KernelRfl
import Derived.RowKit3
import Derived.Deep.LoopGhost
import Derived.Deep.QuietTactic
import Derived.BigQuiet
import Derived.WideLaws
import Derived.Deep.DeepCutAuto
import Derived.Deep.CutBlock
import Derived.Deep.RegionHeld3
import Derived.Laws.Rows
import Derived.Lib.AppendStr
import Derived.ArgAppend
import Derived.Laws.IdiomCopy
import Derived.OrdersHeld
import Derived.Laws.BitsLemmas
import Derived.RowKit
import Derived.Laws.CopyOwn
import Derived.Lib.SliceRun
import Derived.Shelf.Spec.TrailingZeros
import Derived.Test.YtlpcphndgjibpaaDoorZGRxU
import Derived.Test.YtlpcphndgjibpaaDoorZGWLast
namespace Go.Proofs.YtlpcphndgjibpaaDoor.P
open Go.RowKit Go.Proofs.YtlpcphndgjibpaaDoorW.PrintWords Go.Proofs.YtlpcphndgjibpaaDoorW.PrintLast Go.Proofs.YtlpcphndgjibpaaDoorW.PrintMore Go.Proofs.YtlpcphndgjibpaaDoor.Rx
set_option linter.unusedVariables false
set_option maxHeartbeats 1000000 in
theorem bits_TrailingZeros64.core (x k idx : Nat) (w : World) (hx0 : ((x : Int) == 0) = false)
    (key : IntKind.u64.wrap (bits BinOp.and IntKind.u64 (x : Int) (IntKind.u64.wrap (-(x : Int))) * 285870213051353865) / 288230376151711744 = (idx : Int))
    (hi : idx < 64) (hk : k < 64) (hcell : w.cell? ⟨0, idx, none⟩ = some (.int .u8 k)) :
    Calls Tryd.prog 56 #[.int .u64 x] w fun e w' => e = .returned (.int .i64 k) ∧ w' = w := by
  go_enter Tryd.func56, Tryd.ntmps56
  go_wp2_with (simp only [key])
  go_ret
  exact ⟨rfl, rfl⟩
theorem bits_TrailingZeros64.zero (w : World) :
    Calls Tryd.prog 56 #[.int .u64 0] w fun e w' => e = .returned (.int .i64 64) ∧ w' = w := by
  go_enter Tryd.func56, Tryd.ntmps56
  go_wp2
  go_ret
  exact ⟨rfl, rfl⟩
theorem bits_TrailingZeros64.calls (a0 : Int) (r : Int) (w : World) (h : bits_TrailingZeros64.f a0 = some r) (hT : TabOk w) :
    Calls Tryd.prog 56 #[.int .u64 a0] w fun e w' => e = .returned (.int .i64 r) ∧ Drawn0 w w' := by
  unfold bits_TrailingZeros64.f at h
  by_cases h0 : 0 ≤ a0
  · rw [if_pos h0] at h
    by_cases h1 : a0 < 18446744073709551616
    · rw [if_pos h1] at h
      obtain rfl := Option.some.inj h
      obtain ⟨x, rfl⟩ := Int.eq_ofNat_of_zero_le h0
      rw [Int.toNat_natCast]
      have hx : x < 18446744073709551616 := by omega
      by_cases hx0 : x = 0
      · subst hx0
        refine (bits_TrailingZeros64.zero w).mono ?_
        rintro e w' ⟨rfl, rfl⟩
        exact ⟨rfl, Drawn0.refl _⟩
      · obtain ⟨hlow, hk⟩ := Lib.lowest_bit 64 x hx0 hx
        obtain ⟨hi, htab⟩ := Lib.deBruijn64_at _ hk
        have hcell := hT.out _ hi
        rw [htab] at hcell
        refine (bits_TrailingZeros64.core x _ _ w (by simp; omega) (tz64_key x _ hx hx0 hlow) hi hk hcell).mono ?_
        rintro e w' ⟨rfl, rfl⟩
        exact ⟨rfl, Drawn0.refl _⟩
    · rw [if_neg h1] at h
      exact absurd h (by simp)
  · rw [if_neg h0] at h
    exact absurd h (by simp)
end Go.Proofs.YtlpcphndgjibpaaDoor.P
namespace Go.Proofs.YtlpcphndgjibpaaDoor.Rx
open Go Go.Proofs Go.Proofs.YtlpcphndgjibpaaDoor.P Go.RowKit Go.Proofs.YtlpcphndgjibpaaDoorW.PrintWords
theorem ac_bits_TrailingZeros64 {a0 r : Int} (h : bits_TrailingZeros64.f a0 = some r) : AC Tryd.prog N0 G0 56 [] [.c (.d (.sc (.int .u64 a0)))] [] (.c (.d (.sc (.int .i64 r)))) := by
  refine ⟨⟨_, Tryd.func56, by kernel_rfl, by decide⟩, fun Γ vs hN hG hok hids hvs => ?_⟩
  have hT : TabOk Γ.w0 := by
    have := Γ.g0
    rw [hG] at this; exact this
  obtain ⟨u, rfl⟩ : ∃ u, vs = [u] := by
    cases vs with
    | nil => simp [RelTs] at hvs
    | cons u s =>
      cases s with
      | nil => exact ⟨u, rfl⟩
      | cons _ _ => simp [RelTs] at hvs
  have hu : u = .int .u64 a0 := relT_sc (by simp only [RelTs] at hvs; exact hvs.1)
  subst hu
  refine (bits_TrailingZeros64.calls a0 r Γ.w0 h hT).mono ?_
  rintro e w' ⟨rfl, n, rfl⟩
  exact ⟨_, Γ.S0, Γ.ρ0, rfl, hok.drawn _, hids, relT_val rfl⟩
end Go.Proofs.YtlpcphndgjibpaaDoor.Rx
