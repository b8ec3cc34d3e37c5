/- Written by wip/gen/gen.py (a program of ours) over the seat translation: for each Go function a Lean function with the same answers, and the proof that the call comes to them. No condition. -/
import Derived.Test.YtkailkcfhkooeaaDoorProg
import Derived.Below
import Derived.Deep.Draws
import Derived.Deep.AppendLies
import Derived.Maps.AppendAt
import Derived.OwnWalk
import Derived.Laws.BytesArg
import Derived.Laws.MakeOwn
import Derived.Laws.OwnMore
import Derived.Deep.OwnRows
import Derived.Tactics
import Derived.Lib.ConvBytes
import Derived.Laws.Slices
import Derived.WalkKit
import Derived.KernelRfl
import Derived.RowKit3
import Derived.Deep.LoopGhost
import Derived.Deep.QuietTactic
import Derived.BigQuiet
import Derived.WideLaws
import Derived.Deep.DeepCutAuto
import Derived.Deep.CutBlock
import Derived.Deep.RegionHeld3
import Derived.Laws.Rows
import Derived.Lib.AppendStr
import Derived.ArgAppend
import Derived.Laws.IdiomCopy
import Derived.OrdersHeld
import Derived.Laws.BitsLemmas
import Derived.RowKit
import Derived.Lib.SliceRun
import Derived.Shelf.Spec.TrailingZeros
import Derived.Test.YtkailkcfhkooeaaDoorWWords
import Derived.Test.YtkailkcfhkooeaaDoorWLast
import Derived.Test.YtkailkcfhkooeaaDoorWTab
import Derived.Test.YtkailkcfhkooeaaDoorWFour
import Derived.Test.YtkailkcfhkooeaaDoorWQPut
import Derived.Test.YtkailkcfhkooeaaDoorWApart
import Derived.Test.YtkailkcfhkooeaaDoorWArr
import Derived.Test.YtkailkcfhkooeaaDoorWZeros
import Derived.Test.YtkailkcfhkooeaaDoorWFoot
import Derived.Test.YtkailkcfhkooeaaDoorWKept
import Derived.Test.YtkailkcfhkooeaaDoorWShare
import Derived.Test.YtkailkcfhkooeaaDoorWN
import Derived.Test.YtkailkcfhkooeaaDoorWFootNe
import Derived.Test.YtkailkcfhkooeaaDoorWAt
import Derived.Test.YtkailkcfhkooeaaDoorWEqStruct
import Derived.Test.YtkailkcfhkooeaaDoorWRepsOne
import Derived.Test.YtkailkcfhkooeaaDoorWInv
import Derived.Test.YtkailkcfhkooeaaDoorWInvWords
import Derived.Test.YtkailkcfhkooeaaDoorWGuard
import Derived.Test.YtkailkcfhkooeaaDoorWNEv
import Derived.Test.YtkailkcfhkooeaaDoorWMore
namespace Go.Proofs.YtkailkcfhkooeaaDoor.P
open Go.RowKit Go.Proofs.YtkailkcfhkooeaaDoorW.PrintWords Go.Proofs.YtkailkcfhkooeaaDoorW.PrintLast Go.Proofs.YtkailkcfhkooeaaDoorW.PrintMore
attribute [local go_sem] max2_int min2_int max_two min_two max_three min_three max_four min_four   -- for this text's walks alone
set_option linter.unusedVariables false
set_option linter.unusedSimpArgs false



def errW : Option Int → Value
  | none => .nilIface
  | some c => .iface 0 (.int .i64 c)
theorem errW_none : errW none = .nilIface := rfl
theorem errW_some (c : Int) : errW (some c) = .iface 0 (.int .i64 c) := rfl

/-- math/bits.deBruijn64tab lies in its variable as its initialiser lays it. -/
structure TabOk (w : World) : Prop where mk :: (out : TabAt 0 Lib.deBruijn64tab w)
theorem TabOk.below {w W : World} (h : TabOk w) (hb : Below w.heap.size w W) : TabOk W := ⟨fun j hj => (hb.cell (World.block_lt_of_cell? w _ (h.out j hj))).trans (h.out j hj)⟩
theorem TabOk.drewN {w : World} (h : TabOk w) (n : Nat) : TabOk (w.drewN n) := h.below ((Drawn0.refl w).step n).below
theorem TabOk.drew1 {w : World} (h : TabOk w) : TabOk w.drew := h.below (Below.refl _ _).drew
theorem TabOk.alloc {w : World} (h : TabOk w) (o : Obj) : TabOk (w.alloc o) := h.below ((Below.refl _ _).alloc (Nat.le_refl _) o)
theorem TabOk.drawn {w W : World} (h : TabOk w) (hd : Drawn0 w W) : TabOk W := h.below hd.below

theorem info35 : (Tryd.prog.info? 35).map (fun i => (i.zero, i.size, i.bytes)) = some (some (.int .u64 0), 1, 8) := by kernel_rfl
-- the values' own types
def rd_L1 (xs : List (List Int)) (i : Int) : (List Int) := xs.getD i.toNat ([] : List Int)
theorem at_L1 {w : World} {A : Option Addr} {n : Nat} {xs : List (List Int)} (h : Kd.C (Kd.slice 35 (Kd.int .u64)) w A n xs) (i : Int) (h0 : 0 ≤ i) (h1 : i < n) : ∃ ad A0 c0, A = some ad ∧ w.cell? (ad.add i.toNat) = some (.slice A0 (rd_L1 xs i).length c0) ∧ (rd_L1 xs i).length ≤ c0 ∧ (Kd.int .u64).C w A0 (rd_L1 xs i).length (rd_L1 xs i) := by
  obtain ⟨ad, c, e, _, hK, hc0⟩ := Kd.C_get h ([] : List Int) i h0 h1
  have hc : ∀ j u, c[j]? = some u → w.cell? (ad.add (i.toNat * 1 + j)) = some u := hc0
  obtain ⟨A0, c0, rfl, l0, g0⟩ := hK
  exact ⟨ad, A0, c0, e, by have hq := hc 0 _ rfl; rwa [Nat.mul_one, Nat.add_zero] at hq, l0, g0⟩

end Go.Proofs.YtkailkcfhkooeaaDoor.P
