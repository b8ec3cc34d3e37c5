/-
  NARROWER THAN 'FOR EVERY INPUT', by the rows' own cells (each row's printed sentence says how): RecodeChooses: laid · RecodeDegrees: laid · RecodeMixes: laid · RecodeNearer: laid · EchelonBases: laid · EchelonOrder: laid · EchelonRises: laid · EchelonSpan: laid.
  DERIVED. THE GIVEN ROWS OF THIS SEAT. 8 by the template 'for every input the law returns true; each argument reads behind the call as it read before'; 0 by the template 'total and deterministic' (their statements: YtlpcphndgjibpaaDoorTotals.lean).
  GIVEN WITH THE SEED: the statements are not yours to turn. If you find one false, say at which input.
  Laid BY PROGRAM, IN A SANDBOX (cutbox-rows.mjs): the forced cells as the released guide's own fill.sh prints them over the translation 1b40f690687d4887… (all of the seat's roots in one cut). By AI agents, Wed Nov 11 2026. No macro, syntax, notation, axiom, sorry.
-/
import Derived.Test.YtlpcphndgjibpaaDoorChecked
import GoSem.Claim
import GoSem.ClaimJoined
import GoSem.ClaimMapViews
import Derived.JoinedTies
import Derived.KernelRfl
namespace Go.Proofs.YtlpcphndgjibpaaDoor
/- THE CELL 'sum', in the pinned program and in every row, IS THE sha256 OF THE DUMP (.gsa) THAT YtlpcphndgjibpaaDoorProg.lean LOADS. Nothing in Lean hashes anything: it is a label: what it is worth is what the hold of that sum in a sandbox is worth. -/
noncomputable def Tryd.pinned : Pinned := { name := "ytlpcphndgjibpaadoor", sum := "1b40f690687d4887feab9679d5254fb216cb8e58f2aa8112191669fc9b5f7eed", checked := Tryd.checked }
namespace Rows
def none {H : Type} : Left H := { results := [], args := [] }

/- WHAT THE LISTED PACKAGE-LEVEL VARIABLES READ AS WHEN THE CALL BEGINS. Each datum BY PROGRAM (the guide's laid-datum.mjs) off the statement by which the dump's own 'gosem.cut.vars' lays the variable. In a bare row this is a premise. The card (YtlpcphndgjibpaaDoorCards.lean) ties it to the program's text. -/
def laid_math_bits_deBruijn64tab {H : Type} : DataW H := .agg [.lit (.int .u8 0), .lit (.int .u8 1), .lit (.int .u8 56), .lit (.int .u8 2), .lit (.int .u8 57), .lit (.int .u8 49), .lit (.int .u8 28), .lit (.int .u8 3), .lit (.int .u8 61), .lit (.int .u8 58), .lit (.int .u8 42), .lit (.int .u8 50), .lit (.int .u8 38), .lit (.int .u8 29), .lit (.int .u8 17), .lit (.int .u8 4), .lit (.int .u8 62), .lit (.int .u8 47), .lit (.int .u8 59), .lit (.int .u8 36), .lit (.int .u8 45), .lit (.int .u8 43), .lit (.int .u8 51), .lit (.int .u8 22), .lit (.int .u8 53), .lit (.int .u8 39), .lit (.int .u8 33), .lit (.int .u8 30), .lit (.int .u8 24), .lit (.int .u8 18), .lit (.int .u8 12), .lit (.int .u8 5), .lit (.int .u8 63), .lit (.int .u8 55), .lit (.int .u8 48), .lit (.int .u8 27), .lit (.int .u8 60), .lit (.int .u8 41), .lit (.int .u8 37), .lit (.int .u8 16), .lit (.int .u8 46), .lit (.int .u8 35), .lit (.int .u8 44), .lit (.int .u8 21), .lit (.int .u8 52), .lit (.int .u8 32), .lit (.int .u8 23), .lit (.int .u8 11), .lit (.int .u8 54), .lit (.int .u8 26), .lit (.int .u8 40), .lit (.int .u8 15), .lit (.int .u8 34), .lit (.int .u8 20), .lit (.int .u8 31), .lit (.int .u8 10), .lit (.int .u8 25), .lit (.int .u8 14), .lit (.int .u8 19), .lit (.int .u8 9), .lit (.int .u8 13), .lit (.int .u8 8), .lit (.int .u8 7), .lit (.int .u8 6)]

/-- 'bucketlinelaw18.RecodeChooses': WHATEVER THE INPUT: true; the input reads as it did. -/
def recodeChoosesSpec : ChangeSpec := { name := "recodeChooses", fn := fun _ => fun
  | [d1, d2, d3] => { results := [.lit (.bool true)], args := [d1, d2, d3] }
  | _ => none }
def recodeChoosesRow : OpenClaim := { program := "ytlpcphndgjibpaadoor", sum := "1b40f690687d4887feab9679d5254fb216cb8e58f2aa8112191669fc9b5f7eed", func := "bucketline/bucketlinelaw18.RecodeChooses", spec := "recodeChooses", named := ["math/bits.deBruijn64tab"], apart := false, laid := [("math/bits.deBruijn64tab", laid_math_bits_deBruijn64tab)] }
def RecodeChoosesSaid : Prop := recodeChoosesRow.holds Tryd.pinned (OpenSpec.ofChange recodeChoosesSpec)

/-- ITS FALSE NEIGHBOUR: 'it returns false'. Refute it at one input. -/
def recodeChoosesWrong : ChangeSpec := { name := "recodeChooses", fn := fun _ => fun
  | [d1, d2, d3] => { results := [.lit (.bool false)], args := [d1, d2, d3] }
  | _ => none }
def RecodeChoosesWrongFalsely : Prop := recodeChoosesRow.holds Tryd.pinned (OpenSpec.ofChange recodeChoosesWrong)

/-- 'bucketlinelaw18.RecodeDegrees': WHATEVER THE INPUT: true; the input reads as it did. -/
def recodeDegreesSpec : ChangeSpec := { name := "recodeDegrees", fn := fun _ => fun
  | [d1, d2] => { results := [.lit (.bool true)], args := [d1, d2] }
  | _ => none }
def recodeDegreesRow : OpenClaim := { program := "ytlpcphndgjibpaadoor", sum := "1b40f690687d4887feab9679d5254fb216cb8e58f2aa8112191669fc9b5f7eed", func := "bucketline/bucketlinelaw18.RecodeDegrees", spec := "recodeDegrees", named := ["math/bits.deBruijn64tab"], apart := false, laid := [("math/bits.deBruijn64tab", laid_math_bits_deBruijn64tab)] }
def RecodeDegreesSaid : Prop := recodeDegreesRow.holds Tryd.pinned (OpenSpec.ofChange recodeDegreesSpec)

/-- ITS FALSE NEIGHBOUR: 'it returns false'. Refute it at one input. -/
def recodeDegreesWrong : ChangeSpec := { name := "recodeDegrees", fn := fun _ => fun
  | [d1, d2] => { results := [.lit (.bool false)], args := [d1, d2] }
  | _ => none }
def RecodeDegreesWrongFalsely : Prop := recodeDegreesRow.holds Tryd.pinned (OpenSpec.ofChange recodeDegreesWrong)

/-- 'bucketlinelaw18.RecodeMixes': WHATEVER THE INPUT: true; the input reads as it did. -/
def recodeMixesSpec : ChangeSpec := { name := "recodeMixes", fn := fun _ => fun
  | [d1, d2] => { results := [.lit (.bool true)], args := [d1, d2] }
  | _ => none }
def recodeMixesRow : OpenClaim := { program := "ytlpcphndgjibpaadoor", sum := "1b40f690687d4887feab9679d5254fb216cb8e58f2aa8112191669fc9b5f7eed", func := "bucketline/bucketlinelaw18.RecodeMixes", spec := "recodeMixes", named := ["math/bits.deBruijn64tab"], apart := false, laid := [("math/bits.deBruijn64tab", laid_math_bits_deBruijn64tab)] }
def RecodeMixesSaid : Prop := recodeMixesRow.holds Tryd.pinned (OpenSpec.ofChange recodeMixesSpec)

/-- ITS FALSE NEIGHBOUR: 'it returns false'. Refute it at one input. -/
def recodeMixesWrong : ChangeSpec := { name := "recodeMixes", fn := fun _ => fun
  | [d1, d2] => { results := [.lit (.bool false)], args := [d1, d2] }
  | _ => none }
def RecodeMixesWrongFalsely : Prop := recodeMixesRow.holds Tryd.pinned (OpenSpec.ofChange recodeMixesWrong)

/-- 'bucketlinelaw18.RecodeNearer': WHATEVER THE INPUT: true; the input reads as it did. -/
def recodeNearerSpec : ChangeSpec := { name := "recodeNearer", fn := fun _ => fun
  | [d1, d2, d3] => { results := [.lit (.bool true)], args := [d1, d2, d3] }
  | _ => none }
def recodeNearerRow : OpenClaim := { program := "ytlpcphndgjibpaadoor", sum := "1b40f690687d4887feab9679d5254fb216cb8e58f2aa8112191669fc9b5f7eed", func := "bucketline/bucketlinelaw18.RecodeNearer", spec := "recodeNearer", named := ["math/bits.deBruijn64tab"], apart := false, laid := [("math/bits.deBruijn64tab", laid_math_bits_deBruijn64tab)] }
def RecodeNearerSaid : Prop := recodeNearerRow.holds Tryd.pinned (OpenSpec.ofChange recodeNearerSpec)

/-- ITS FALSE NEIGHBOUR: 'it returns false'. Refute it at one input. -/
def recodeNearerWrong : ChangeSpec := { name := "recodeNearer", fn := fun _ => fun
  | [d1, d2, d3] => { results := [.lit (.bool false)], args := [d1, d2, d3] }
  | _ => none }
def RecodeNearerWrongFalsely : Prop := recodeNearerRow.holds Tryd.pinned (OpenSpec.ofChange recodeNearerWrong)

/-- 'bucketlinelaw03.EchelonBases': WHATEVER THE INPUT: true; the input reads as it did. -/
def echelonBasesSpec : ChangeSpec := { name := "echelonBases", fn := fun _ => fun
  | [d] => { results := [.lit (.bool true)], args := [d] }
  | _ => none }
def echelonBasesRow : OpenClaim := { program := "ytlpcphndgjibpaadoor", sum := "1b40f690687d4887feab9679d5254fb216cb8e58f2aa8112191669fc9b5f7eed", func := "bucketline/bucketlinelaw03.EchelonBases", spec := "echelonBases", inPlace := ["slices.overlaps[[]uint64]"], unfollowed := true, recurses := true, named := ["math/bits.deBruijn64tab"], apart := false, laid := [("math/bits.deBruijn64tab", laid_math_bits_deBruijn64tab)] }
def EchelonBasesSaid : Prop := echelonBasesRow.holds Tryd.pinned (OpenSpec.ofChange echelonBasesSpec)

/-- ITS FALSE NEIGHBOUR: 'it returns false'. Refute it at one input. -/
def echelonBasesWrong : ChangeSpec := { name := "echelonBases", fn := fun _ => fun
  | [d] => { results := [.lit (.bool false)], args := [d] }
  | _ => none }
def EchelonBasesWrongFalsely : Prop := echelonBasesRow.holds Tryd.pinned (OpenSpec.ofChange echelonBasesWrong)

/-- 'bucketlinelaw03.EchelonOrder': WHATEVER THE INPUT: true; the input reads as it did. -/
def echelonOrderSpec : ChangeSpec := { name := "echelonOrder", fn := fun _ => fun
  | [d1, d2] => { results := [.lit (.bool true)], args := [d1, d2] }
  | _ => none }
def echelonOrderRow : OpenClaim := { program := "ytlpcphndgjibpaadoor", sum := "1b40f690687d4887feab9679d5254fb216cb8e58f2aa8112191669fc9b5f7eed", func := "bucketline/bucketlinelaw03.EchelonOrder", spec := "echelonOrder", inPlace := ["slices.overlaps[[]uint64]"], unfollowed := true, recurses := true, named := ["math/bits.deBruijn64tab"], apart := false, laid := [("math/bits.deBruijn64tab", laid_math_bits_deBruijn64tab)] }
def EchelonOrderSaid : Prop := echelonOrderRow.holds Tryd.pinned (OpenSpec.ofChange echelonOrderSpec)

/-- ITS FALSE NEIGHBOUR: 'it returns false'. Refute it at one input. -/
def echelonOrderWrong : ChangeSpec := { name := "echelonOrder", fn := fun _ => fun
  | [d1, d2] => { results := [.lit (.bool false)], args := [d1, d2] }
  | _ => none }
def EchelonOrderWrongFalsely : Prop := echelonOrderRow.holds Tryd.pinned (OpenSpec.ofChange echelonOrderWrong)

/-- 'bucketlinelaw03.EchelonRises': WHATEVER THE INPUT: true; the input reads as it did. -/
def echelonRisesSpec : ChangeSpec := { name := "echelonRises", fn := fun _ => fun
  | [d] => { results := [.lit (.bool true)], args := [d] }
  | _ => none }
def echelonRisesRow : OpenClaim := { program := "ytlpcphndgjibpaadoor", sum := "1b40f690687d4887feab9679d5254fb216cb8e58f2aa8112191669fc9b5f7eed", func := "bucketline/bucketlinelaw03.EchelonRises", spec := "echelonRises", inPlace := ["slices.overlaps[[]uint64]"], unfollowed := true, recurses := true, named := ["math/bits.deBruijn64tab"], apart := false, laid := [("math/bits.deBruijn64tab", laid_math_bits_deBruijn64tab)] }
def EchelonRisesSaid : Prop := echelonRisesRow.holds Tryd.pinned (OpenSpec.ofChange echelonRisesSpec)

/-- ITS FALSE NEIGHBOUR: 'it returns false'. Refute it at one input. -/
def echelonRisesWrong : ChangeSpec := { name := "echelonRises", fn := fun _ => fun
  | [d] => { results := [.lit (.bool false)], args := [d] }
  | _ => none }
def EchelonRisesWrongFalsely : Prop := echelonRisesRow.holds Tryd.pinned (OpenSpec.ofChange echelonRisesWrong)

/-- 'bucketlinelaw03.EchelonSpan': WHATEVER THE INPUT: true; the input reads as it did. -/
def echelonSpanSpec : ChangeSpec := { name := "echelonSpan", fn := fun _ => fun
  | [d] => { results := [.lit (.bool true)], args := [d] }
  | _ => none }
def echelonSpanRow : OpenClaim := { program := "ytlpcphndgjibpaadoor", sum := "1b40f690687d4887feab9679d5254fb216cb8e58f2aa8112191669fc9b5f7eed", func := "bucketline/bucketlinelaw03.EchelonSpan", spec := "echelonSpan", inPlace := ["slices.overlaps[[]uint64]"], unfollowed := true, recurses := true, named := ["math/bits.deBruijn64tab"], apart := false, laid := [("math/bits.deBruijn64tab", laid_math_bits_deBruijn64tab)] }
def EchelonSpanSaid : Prop := echelonSpanRow.holds Tryd.pinned (OpenSpec.ofChange echelonSpanSpec)

/-- ITS FALSE NEIGHBOUR: 'it returns false'. Refute it at one input. -/
def echelonSpanWrong : ChangeSpec := { name := "echelonSpan", fn := fun _ => fun
  | [d] => { results := [.lit (.bool false)], args := [d] }
  | _ => none }
def EchelonSpanWrongFalsely : Prop := echelonSpanRow.holds Tryd.pinned (OpenSpec.ofChange echelonSpanWrong)

/- THE SECOND FORM. 'bulk': how many values and letters a reading holds, each counted each time it is reached (what is shared counts as often as it is met; a slice's spare places count too). A statement '..UptoSaid' is the law's where the arguments, and the package variables that the reading takes, are together of bulk at most 1048576: NARROWER than '..Said'. Prove '..Said' where nothing that the law and all that it calls make is longer than what came in: it says more and counts as full. Else prove '..UptoSaid'. A law counts once. -/
mutual
def uptoBulk {H : Type} : DataW H → Nat
  | .lit (.string bytes) => bytes.length + 1
  | .lit _ => 1
  | .nil => 1
  | .ptr d => uptoBulk d + 1
  | .slice elems spare => uptoBulkAll elems + uptoBulkAll spare + 1
  | .agg parts => uptoBulkAll parts + 1
  | .iface _ d => uptoBulk d + 1
  | .map entries => uptoBulkEntries entries + 1
  | .held _ => 1
def uptoBulkAll {H : Type} : List (DataW H) → Nat
  | [] => 0
  | d :: r => uptoBulk d + uptoBulkAll r
def uptoBulkEntries {H : Type} : List (Lit × DataW H) → Nat
  | [] => 0
  | x :: r => uptoBulkEntry x + uptoBulkEntries r
def uptoBulkEntry {H : Type} : Lit × DataW H → Nat
  | (.string bytes, d) => bytes.length + uptoBulk d + 1
  | (_, d) => uptoBulk d + 1
 end
def uptoSmall : (H : Type) → List (DataW H) → Bool := fun _ ds => decide (uptoBulkAll ds ≤ 1048576)
def OpenSpec.upto (s : _root_.Go.ChangeSpec) : _root_.Go.OpenSpec := { _root_.Go.OpenSpec.ofChange s with cond := some uptoSmall }

/-- 'bucketlinelaw18.RecodeChooses', WHERE WHAT IT READS IS OF BULK AT MOST 1048576: true; the input reads as it did. -/
def recodeChoosesUptoRow : OpenClaim := { program := "ytlpcphndgjibpaadoor", sum := "1b40f690687d4887feab9679d5254fb216cb8e58f2aa8112191669fc9b5f7eed", func := "bucketline/bucketlinelaw18.RecodeChooses", spec := "recodeChooses", named := ["math/bits.deBruijn64tab"], apart := false, laid := [("math/bits.deBruijn64tab", laid_math_bits_deBruijn64tab)], narrowed := true }
def RecodeChoosesUptoSaid : Prop := recodeChoosesUptoRow.holds Tryd.pinned (OpenSpec.upto recodeChoosesSpec)

/-- 'bucketlinelaw18.RecodeDegrees', WHERE WHAT IT READS IS OF BULK AT MOST 1048576: true; the input reads as it did. -/
def recodeDegreesUptoRow : OpenClaim := { program := "ytlpcphndgjibpaadoor", sum := "1b40f690687d4887feab9679d5254fb216cb8e58f2aa8112191669fc9b5f7eed", func := "bucketline/bucketlinelaw18.RecodeDegrees", spec := "recodeDegrees", named := ["math/bits.deBruijn64tab"], apart := false, laid := [("math/bits.deBruijn64tab", laid_math_bits_deBruijn64tab)], narrowed := true }
def RecodeDegreesUptoSaid : Prop := recodeDegreesUptoRow.holds Tryd.pinned (OpenSpec.upto recodeDegreesSpec)

/-- 'bucketlinelaw18.RecodeMixes', WHERE WHAT IT READS IS OF BULK AT MOST 1048576: true; the input reads as it did. -/
def recodeMixesUptoRow : OpenClaim := { program := "ytlpcphndgjibpaadoor", sum := "1b40f690687d4887feab9679d5254fb216cb8e58f2aa8112191669fc9b5f7eed", func := "bucketline/bucketlinelaw18.RecodeMixes", spec := "recodeMixes", named := ["math/bits.deBruijn64tab"], apart := false, laid := [("math/bits.deBruijn64tab", laid_math_bits_deBruijn64tab)], narrowed := true }
def RecodeMixesUptoSaid : Prop := recodeMixesUptoRow.holds Tryd.pinned (OpenSpec.upto recodeMixesSpec)

/-- 'bucketlinelaw18.RecodeNearer', WHERE WHAT IT READS IS OF BULK AT MOST 1048576: true; the input reads as it did. -/
def recodeNearerUptoRow : OpenClaim := { program := "ytlpcphndgjibpaadoor", sum := "1b40f690687d4887feab9679d5254fb216cb8e58f2aa8112191669fc9b5f7eed", func := "bucketline/bucketlinelaw18.RecodeNearer", spec := "recodeNearer", named := ["math/bits.deBruijn64tab"], apart := false, laid := [("math/bits.deBruijn64tab", laid_math_bits_deBruijn64tab)], narrowed := true }
def RecodeNearerUptoSaid : Prop := recodeNearerUptoRow.holds Tryd.pinned (OpenSpec.upto recodeNearerSpec)

/-- 'bucketlinelaw03.EchelonBases', WHERE WHAT IT READS IS OF BULK AT MOST 1048576: true; the input reads as it did. -/
def echelonBasesUptoRow : OpenClaim := { program := "ytlpcphndgjibpaadoor", sum := "1b40f690687d4887feab9679d5254fb216cb8e58f2aa8112191669fc9b5f7eed", func := "bucketline/bucketlinelaw03.EchelonBases", spec := "echelonBases", inPlace := ["slices.overlaps[[]uint64]"], unfollowed := true, recurses := true, named := ["math/bits.deBruijn64tab"], apart := false, laid := [("math/bits.deBruijn64tab", laid_math_bits_deBruijn64tab)], narrowed := true }
def EchelonBasesUptoSaid : Prop := echelonBasesUptoRow.holds Tryd.pinned (OpenSpec.upto echelonBasesSpec)

/-- 'bucketlinelaw03.EchelonOrder', WHERE WHAT IT READS IS OF BULK AT MOST 1048576: true; the input reads as it did. -/
def echelonOrderUptoRow : OpenClaim := { program := "ytlpcphndgjibpaadoor", sum := "1b40f690687d4887feab9679d5254fb216cb8e58f2aa8112191669fc9b5f7eed", func := "bucketline/bucketlinelaw03.EchelonOrder", spec := "echelonOrder", inPlace := ["slices.overlaps[[]uint64]"], unfollowed := true, recurses := true, named := ["math/bits.deBruijn64tab"], apart := false, laid := [("math/bits.deBruijn64tab", laid_math_bits_deBruijn64tab)], narrowed := true }
def EchelonOrderUptoSaid : Prop := echelonOrderUptoRow.holds Tryd.pinned (OpenSpec.upto echelonOrderSpec)

/-- 'bucketlinelaw03.EchelonRises', WHERE WHAT IT READS IS OF BULK AT MOST 1048576: true; the input reads as it did. -/
def echelonRisesUptoRow : OpenClaim := { program := "ytlpcphndgjibpaadoor", sum := "1b40f690687d4887feab9679d5254fb216cb8e58f2aa8112191669fc9b5f7eed", func := "bucketline/bucketlinelaw03.EchelonRises", spec := "echelonRises", inPlace := ["slices.overlaps[[]uint64]"], unfollowed := true, recurses := true, named := ["math/bits.deBruijn64tab"], apart := false, laid := [("math/bits.deBruijn64tab", laid_math_bits_deBruijn64tab)], narrowed := true }
def EchelonRisesUptoSaid : Prop := echelonRisesUptoRow.holds Tryd.pinned (OpenSpec.upto echelonRisesSpec)

/-- 'bucketlinelaw03.EchelonSpan', WHERE WHAT IT READS IS OF BULK AT MOST 1048576: true; the input reads as it did. -/
def echelonSpanUptoRow : OpenClaim := { program := "ytlpcphndgjibpaadoor", sum := "1b40f690687d4887feab9679d5254fb216cb8e58f2aa8112191669fc9b5f7eed", func := "bucketline/bucketlinelaw03.EchelonSpan", spec := "echelonSpan", inPlace := ["slices.overlaps[[]uint64]"], unfollowed := true, recurses := true, named := ["math/bits.deBruijn64tab"], apart := false, laid := [("math/bits.deBruijn64tab", laid_math_bits_deBruijn64tab)], narrowed := true }
def EchelonSpanUptoSaid : Prop := echelonSpanUptoRow.holds Tryd.pinned (OpenSpec.upto echelonSpanSpec)

end Rows
end Go.Proofs.YtlpcphndgjibpaaDoor
