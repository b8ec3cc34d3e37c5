/- Written by wip/gen/gen.py (a program of ours) over the seat translation: for each Go function a Lean function with the same answers, and the proof that the call comes to them. No condition. -/
import Derived.Test.YtkailkcfhkooeaaProg
import Derived.Below
import Derived.Deep.Draws
import Derived.Deep.AppendLies
import Derived.Maps.AppendAt
import Derived.OwnWalk
import Derived.Laws.BytesArg
import Derived.Laws.MakeOwn
import Derived.Laws.OwnMore
import Derived.Deep.OwnRows
import Derived.Tactics
import Derived.Lib.ConvBytes
import Derived.Laws.Slices
import Derived.WalkKit
import Derived.KernelRfl
import Derived.RowKit3
import Derived.Deep.LoopGhost
import Derived.Deep.QuietTactic
import Derived.BigQuiet
import Derived.WideLaws
import Derived.Deep.DeepCutAuto
import Derived.Deep.CutBlock
import Derived.Deep.RegionHeld3
import Derived.Laws.Rows
import Derived.Lib.AppendStr
import Derived.ArgAppend
import Derived.Laws.IdiomCopy
import Derived.OrdersHeld
import Derived.Laws.BitsLemmas
import Derived.RowKit
import Derived.Test.YtkailkcfhkooeaaWWords
import Derived.Test.YtkailkcfhkooeaaWLast
import Derived.Test.YtkailkcfhkooeaaWTab
import Derived.Test.YtkailkcfhkooeaaWFour
import Derived.Test.YtkailkcfhkooeaaWQPut
import Derived.Test.YtkailkcfhkooeaaWApart
import Derived.Test.YtkailkcfhkooeaaWArr
import Derived.Test.YtkailkcfhkooeaaWZeros
import Derived.Test.YtkailkcfhkooeaaWFoot
import Derived.Test.YtkailkcfhkooeaaWKept
import Derived.Test.YtkailkcfhkooeaaWShare
import Derived.Test.YtkailkcfhkooeaaWN
import Derived.Test.YtkailkcfhkooeaaWFootNe
import Derived.Test.YtkailkcfhkooeaaWAt
import Derived.Test.YtkailkcfhkooeaaWEqStruct
import Derived.Test.YtkailkcfhkooeaaWRepsOne
import Derived.Test.YtkailkcfhkooeaaWInv
import Derived.Test.YtkailkcfhkooeaaWInvWords
import Derived.Test.YtkailkcfhkooeaaWGuard
import Derived.Test.YtkailkcfhkooeaaWNEv
import Derived.Test.YtkailkcfhkooeaaWMore
namespace Go.Proofs.Ytkailkcfhkooeaa.P
open Go.RowKit Go.Proofs.YtkailkcfhkooeaaW.PrintWords Go.Proofs.YtkailkcfhkooeaaW.PrintLast Go.Proofs.YtkailkcfhkooeaaW.PrintMore
attribute [local go_sem] max2_int min2_int max_two min_two max_three min_three max_four min_four   -- for this text's walks alone
set_option linter.unusedVariables false
set_option linter.unusedSimpArgs false



def errW : Option Int → Value
  | none => .nilIface
  | some c => .iface 0 (.int .i64 c)
theorem errW_none : errW none = .nilIface := rfl
theorem errW_some (c : Int) : errW (some c) = .iface 0 (.int .i64 c) := rfl

theorem info5 : (Try.prog.info? 5).map (fun i => (i.zero, i.size, i.bytes)) = some (some (.int .u8 0), 1, 1) := by kernel_rfl
theorem info42 : (Try.prog.info? 42).map (fun i => (i.zero, i.size, i.bytes)) = some (some (.int .u64 0), 1, 8) := by kernel_rfl
-- the values' own types

end Go.Proofs.Ytkailkcfhkooeaa.P
