/-
  NARROWER THAN 'FOR EVERY INPUT', by the rows' own cells (each row's printed sentence says how): WordsSizes: laid · WordsBits: laid · WordsXors: laid · WordsTwice: laid · WordsFirst: laid · WordsUnits: laid.
  DERIVED. THE GIVEN ROWS OF THIS SEAT. 6 by the template 'for every input the law returns true; each argument reads behind the call as it read before'; 0 by the template 'total and deterministic' (their statements: YtkailkcfhkooeaaDoorTotals.lean).
  GIVEN WITH THE SEED: the statements are not yours to turn. If you find one false, say at which input.
  Laid BY PROGRAM, IN A SANDBOX (cutbox-rows.mjs): the forced cells as the released guide's own fill.sh prints them over the translation 93f4bec7ab7e0a2a… (all of the seat's roots in one cut). By AI agents, Wed Nov 11 2026. No macro, syntax, notation, axiom, sorry.
-/
import Derived.Test.YtkailkcfhkooeaaDoorChecked
import GoSem.Claim
import GoSem.ClaimJoined
import GoSem.ClaimMapViews
import Derived.JoinedTies
import Derived.KernelRfl
namespace Go.Proofs.YtkailkcfhkooeaaDoor
/- THE CELL 'sum', in the pinned program and in every row, IS THE sha256 OF THE DUMP (.gsa) THAT YtkailkcfhkooeaaDoorProg.lean LOADS. Nothing in Lean hashes anything: it is a label: what it is worth is what the hold of that sum in a sandbox is worth. -/
noncomputable def Tryd.pinned : Pinned := { name := "ytkailkcfhkooeaadoor", sum := "93f4bec7ab7e0a2a30de082fd7dcb1713d45f80311bbee093f695d02a298ca85", checked := Tryd.checked }
namespace Rows
def none {H : Type} : Left H := { results := [], args := [] }

/- WHAT THE LISTED PACKAGE-LEVEL VARIABLES READ AS WHEN THE CALL BEGINS. Each datum BY PROGRAM (the guide's laid-datum.mjs) off the statement by which the dump's own 'gosem.cut.vars' lays the variable. In a bare row this is a premise. The card (YtkailkcfhkooeaaDoorCards.lean) ties it to the program's text. -/
def laid_math_bits_deBruijn64tab {H : Type} : DataW H := .agg [.lit (.int .u8 0), .lit (.int .u8 1), .lit (.int .u8 56), .lit (.int .u8 2), .lit (.int .u8 57), .lit (.int .u8 49), .lit (.int .u8 28), .lit (.int .u8 3), .lit (.int .u8 61), .lit (.int .u8 58), .lit (.int .u8 42), .lit (.int .u8 50), .lit (.int .u8 38), .lit (.int .u8 29), .lit (.int .u8 17), .lit (.int .u8 4), .lit (.int .u8 62), .lit (.int .u8 47), .lit (.int .u8 59), .lit (.int .u8 36), .lit (.int .u8 45), .lit (.int .u8 43), .lit (.int .u8 51), .lit (.int .u8 22), .lit (.int .u8 53), .lit (.int .u8 39), .lit (.int .u8 33), .lit (.int .u8 30), .lit (.int .u8 24), .lit (.int .u8 18), .lit (.int .u8 12), .lit (.int .u8 5), .lit (.int .u8 63), .lit (.int .u8 55), .lit (.int .u8 48), .lit (.int .u8 27), .lit (.int .u8 60), .lit (.int .u8 41), .lit (.int .u8 37), .lit (.int .u8 16), .lit (.int .u8 46), .lit (.int .u8 35), .lit (.int .u8 44), .lit (.int .u8 21), .lit (.int .u8 52), .lit (.int .u8 32), .lit (.int .u8 23), .lit (.int .u8 11), .lit (.int .u8 54), .lit (.int .u8 26), .lit (.int .u8 40), .lit (.int .u8 15), .lit (.int .u8 34), .lit (.int .u8 20), .lit (.int .u8 31), .lit (.int .u8 10), .lit (.int .u8 25), .lit (.int .u8 14), .lit (.int .u8 19), .lit (.int .u8 9), .lit (.int .u8 13), .lit (.int .u8 8), .lit (.int .u8 7), .lit (.int .u8 6)]

/-- 'bucketlinelaw01.WordsSizes': WHATEVER THE INPUT: true; the input reads as it did. -/
def wordsSizesSpec : ChangeSpec := { name := "wordsSizes", fn := fun _ => fun
  | [d1, d2, d3] => { results := [.lit (.bool true)], args := [d1, d2, d3] }
  | _ => none }
def wordsSizesRow : OpenClaim := { program := "ytkailkcfhkooeaadoor", sum := "93f4bec7ab7e0a2a30de082fd7dcb1713d45f80311bbee093f695d02a298ca85", func := "bucketline/bucketlinelaw01.WordsSizes", spec := "wordsSizes", named := ["math/bits.deBruijn64tab"], apart := false, laid := [("math/bits.deBruijn64tab", laid_math_bits_deBruijn64tab)] }
def WordsSizesSaid : Prop := wordsSizesRow.holds Tryd.pinned (OpenSpec.ofChange wordsSizesSpec)

/-- ITS FALSE NEIGHBOUR: 'it returns false'. Refute it at one input. -/
def wordsSizesWrong : ChangeSpec := { name := "wordsSizes", fn := fun _ => fun
  | [d1, d2, d3] => { results := [.lit (.bool false)], args := [d1, d2, d3] }
  | _ => none }
def WordsSizesWrongFalsely : Prop := wordsSizesRow.holds Tryd.pinned (OpenSpec.ofChange wordsSizesWrong)

/-- 'bucketlinelaw01.WordsBits': WHATEVER THE INPUT: true; the input reads as it did. -/
def wordsBitsSpec : ChangeSpec := { name := "wordsBits", fn := fun _ => fun
  | [d1, d2, d3] => { results := [.lit (.bool true)], args := [d1, d2, d3] }
  | _ => none }
def wordsBitsRow : OpenClaim := { program := "ytkailkcfhkooeaadoor", sum := "93f4bec7ab7e0a2a30de082fd7dcb1713d45f80311bbee093f695d02a298ca85", func := "bucketline/bucketlinelaw01.WordsBits", spec := "wordsBits", named := ["math/bits.deBruijn64tab"], apart := false, laid := [("math/bits.deBruijn64tab", laid_math_bits_deBruijn64tab)] }
def WordsBitsSaid : Prop := wordsBitsRow.holds Tryd.pinned (OpenSpec.ofChange wordsBitsSpec)

/-- ITS FALSE NEIGHBOUR: 'it returns false'. Refute it at one input. -/
def wordsBitsWrong : ChangeSpec := { name := "wordsBits", fn := fun _ => fun
  | [d1, d2, d3] => { results := [.lit (.bool false)], args := [d1, d2, d3] }
  | _ => none }
def WordsBitsWrongFalsely : Prop := wordsBitsRow.holds Tryd.pinned (OpenSpec.ofChange wordsBitsWrong)

/-- 'bucketlinelaw01.WordsXors': WHATEVER THE INPUT: true; the input reads as it did. -/
def wordsXorsSpec : ChangeSpec := { name := "wordsXors", fn := fun _ => fun
  | [d1, d2] => { results := [.lit (.bool true)], args := [d1, d2] }
  | _ => none }
def wordsXorsRow : OpenClaim := { program := "ytkailkcfhkooeaadoor", sum := "93f4bec7ab7e0a2a30de082fd7dcb1713d45f80311bbee093f695d02a298ca85", func := "bucketline/bucketlinelaw01.WordsXors", spec := "wordsXors", named := ["math/bits.deBruijn64tab"], apart := false, laid := [("math/bits.deBruijn64tab", laid_math_bits_deBruijn64tab)] }
def WordsXorsSaid : Prop := wordsXorsRow.holds Tryd.pinned (OpenSpec.ofChange wordsXorsSpec)

/-- ITS FALSE NEIGHBOUR: 'it returns false'. Refute it at one input. -/
def wordsXorsWrong : ChangeSpec := { name := "wordsXors", fn := fun _ => fun
  | [d1, d2] => { results := [.lit (.bool false)], args := [d1, d2] }
  | _ => none }
def WordsXorsWrongFalsely : Prop := wordsXorsRow.holds Tryd.pinned (OpenSpec.ofChange wordsXorsWrong)

/-- 'bucketlinelaw01.WordsTwice': WHATEVER THE INPUT: true; the input reads as it did. -/
def wordsTwiceSpec : ChangeSpec := { name := "wordsTwice", fn := fun _ => fun
  | [d1, d2] => { results := [.lit (.bool true)], args := [d1, d2] }
  | _ => none }
def wordsTwiceRow : OpenClaim := { program := "ytkailkcfhkooeaadoor", sum := "93f4bec7ab7e0a2a30de082fd7dcb1713d45f80311bbee093f695d02a298ca85", func := "bucketline/bucketlinelaw01.WordsTwice", spec := "wordsTwice", named := ["math/bits.deBruijn64tab"], apart := false, laid := [("math/bits.deBruijn64tab", laid_math_bits_deBruijn64tab)] }
def WordsTwiceSaid : Prop := wordsTwiceRow.holds Tryd.pinned (OpenSpec.ofChange wordsTwiceSpec)

/-- ITS FALSE NEIGHBOUR: 'it returns false'. Refute it at one input. -/
def wordsTwiceWrong : ChangeSpec := { name := "wordsTwice", fn := fun _ => fun
  | [d1, d2] => { results := [.lit (.bool false)], args := [d1, d2] }
  | _ => none }
def WordsTwiceWrongFalsely : Prop := wordsTwiceRow.holds Tryd.pinned (OpenSpec.ofChange wordsTwiceWrong)

/-- 'bucketlinelaw01.WordsFirst': WHATEVER THE INPUT: true; the input reads as it did. -/
def wordsFirstSpec : ChangeSpec := { name := "wordsFirst", fn := fun _ => fun
  | [d] => { results := [.lit (.bool true)], args := [d] }
  | _ => none }
def wordsFirstRow : OpenClaim := { program := "ytkailkcfhkooeaadoor", sum := "93f4bec7ab7e0a2a30de082fd7dcb1713d45f80311bbee093f695d02a298ca85", func := "bucketline/bucketlinelaw01.WordsFirst", spec := "wordsFirst", named := ["math/bits.deBruijn64tab"], apart := false, laid := [("math/bits.deBruijn64tab", laid_math_bits_deBruijn64tab)] }
def WordsFirstSaid : Prop := wordsFirstRow.holds Tryd.pinned (OpenSpec.ofChange wordsFirstSpec)

/-- ITS FALSE NEIGHBOUR: 'it returns false'. Refute it at one input. -/
def wordsFirstWrong : ChangeSpec := { name := "wordsFirst", fn := fun _ => fun
  | [d] => { results := [.lit (.bool false)], args := [d] }
  | _ => none }
def WordsFirstWrongFalsely : Prop := wordsFirstRow.holds Tryd.pinned (OpenSpec.ofChange wordsFirstWrong)

/-- 'bucketlinelaw01.WordsUnits': WHATEVER THE INPUT: true; the input reads as it did. -/
def wordsUnitsSpec : ChangeSpec := { name := "wordsUnits", fn := fun _ => fun
  | [d1, d2] => { results := [.lit (.bool true)], args := [d1, d2] }
  | _ => none }
def wordsUnitsRow : OpenClaim := { program := "ytkailkcfhkooeaadoor", sum := "93f4bec7ab7e0a2a30de082fd7dcb1713d45f80311bbee093f695d02a298ca85", func := "bucketline/bucketlinelaw01.WordsUnits", spec := "wordsUnits", named := ["math/bits.deBruijn64tab"], apart := false, laid := [("math/bits.deBruijn64tab", laid_math_bits_deBruijn64tab)] }
def WordsUnitsSaid : Prop := wordsUnitsRow.holds Tryd.pinned (OpenSpec.ofChange wordsUnitsSpec)

/-- ITS FALSE NEIGHBOUR: 'it returns false'. Refute it at one input. -/
def wordsUnitsWrong : ChangeSpec := { name := "wordsUnits", fn := fun _ => fun
  | [d1, d2] => { results := [.lit (.bool false)], args := [d1, d2] }
  | _ => none }
def WordsUnitsWrongFalsely : Prop := wordsUnitsRow.holds Tryd.pinned (OpenSpec.ofChange wordsUnitsWrong)

/- THE SECOND FORM. 'bulk': how many values and letters a reading holds, each counted each time it is reached (what is shared counts as often as it is met; a slice's spare places count too). A statement '..UptoSaid' is the law's where the arguments, and the package variables that the reading takes, are together of bulk at most 1048576: NARROWER than '..Said'. Prove '..Said' where nothing that the law and all that it calls make is longer than what came in: it says more and counts as full. Else prove '..UptoSaid'. A law counts once. -/
mutual
def uptoBulk {H : Type} : DataW H → Nat
  | .lit (.string bytes) => bytes.length + 1
  | .lit _ => 1
  | .nil => 1
  | .ptr d => uptoBulk d + 1
  | .slice elems spare => uptoBulkAll elems + uptoBulkAll spare + 1
  | .agg parts => uptoBulkAll parts + 1
  | .iface _ d => uptoBulk d + 1
  | .map entries => uptoBulkEntries entries + 1
  | .held _ => 1
def uptoBulkAll {H : Type} : List (DataW H) → Nat
  | [] => 0
  | d :: r => uptoBulk d + uptoBulkAll r
def uptoBulkEntries {H : Type} : List (Lit × DataW H) → Nat
  | [] => 0
  | x :: r => uptoBulkEntry x + uptoBulkEntries r
def uptoBulkEntry {H : Type} : Lit × DataW H → Nat
  | (.string bytes, d) => bytes.length + uptoBulk d + 1
  | (_, d) => uptoBulk d + 1
 end
def uptoSmall : (H : Type) → List (DataW H) → Bool := fun _ ds => decide (uptoBulkAll ds ≤ 1048576)
def OpenSpec.upto (s : _root_.Go.ChangeSpec) : _root_.Go.OpenSpec := { _root_.Go.OpenSpec.ofChange s with cond := some uptoSmall }

/-- 'bucketlinelaw01.WordsSizes', WHERE WHAT IT READS IS OF BULK AT MOST 1048576: true; the input reads as it did. -/
def wordsSizesUptoRow : OpenClaim := { program := "ytkailkcfhkooeaadoor", sum := "93f4bec7ab7e0a2a30de082fd7dcb1713d45f80311bbee093f695d02a298ca85", func := "bucketline/bucketlinelaw01.WordsSizes", spec := "wordsSizes", named := ["math/bits.deBruijn64tab"], apart := false, laid := [("math/bits.deBruijn64tab", laid_math_bits_deBruijn64tab)], narrowed := true }
def WordsSizesUptoSaid : Prop := wordsSizesUptoRow.holds Tryd.pinned (OpenSpec.upto wordsSizesSpec)

/-- 'bucketlinelaw01.WordsBits', WHERE WHAT IT READS IS OF BULK AT MOST 1048576: true; the input reads as it did. -/
def wordsBitsUptoRow : OpenClaim := { program := "ytkailkcfhkooeaadoor", sum := "93f4bec7ab7e0a2a30de082fd7dcb1713d45f80311bbee093f695d02a298ca85", func := "bucketline/bucketlinelaw01.WordsBits", spec := "wordsBits", named := ["math/bits.deBruijn64tab"], apart := false, laid := [("math/bits.deBruijn64tab", laid_math_bits_deBruijn64tab)], narrowed := true }
def WordsBitsUptoSaid : Prop := wordsBitsUptoRow.holds Tryd.pinned (OpenSpec.upto wordsBitsSpec)

/-- 'bucketlinelaw01.WordsXors', WHERE WHAT IT READS IS OF BULK AT MOST 1048576: true; the input reads as it did. -/
def wordsXorsUptoRow : OpenClaim := { program := "ytkailkcfhkooeaadoor", sum := "93f4bec7ab7e0a2a30de082fd7dcb1713d45f80311bbee093f695d02a298ca85", func := "bucketline/bucketlinelaw01.WordsXors", spec := "wordsXors", named := ["math/bits.deBruijn64tab"], apart := false, laid := [("math/bits.deBruijn64tab", laid_math_bits_deBruijn64tab)], narrowed := true }
def WordsXorsUptoSaid : Prop := wordsXorsUptoRow.holds Tryd.pinned (OpenSpec.upto wordsXorsSpec)

/-- 'bucketlinelaw01.WordsTwice', WHERE WHAT IT READS IS OF BULK AT MOST 1048576: true; the input reads as it did. -/
def wordsTwiceUptoRow : OpenClaim := { program := "ytkailkcfhkooeaadoor", sum := "93f4bec7ab7e0a2a30de082fd7dcb1713d45f80311bbee093f695d02a298ca85", func := "bucketline/bucketlinelaw01.WordsTwice", spec := "wordsTwice", named := ["math/bits.deBruijn64tab"], apart := false, laid := [("math/bits.deBruijn64tab", laid_math_bits_deBruijn64tab)], narrowed := true }
def WordsTwiceUptoSaid : Prop := wordsTwiceUptoRow.holds Tryd.pinned (OpenSpec.upto wordsTwiceSpec)

/-- 'bucketlinelaw01.WordsFirst', WHERE WHAT IT READS IS OF BULK AT MOST 1048576: true; the input reads as it did. -/
def wordsFirstUptoRow : OpenClaim := { program := "ytkailkcfhkooeaadoor", sum := "93f4bec7ab7e0a2a30de082fd7dcb1713d45f80311bbee093f695d02a298ca85", func := "bucketline/bucketlinelaw01.WordsFirst", spec := "wordsFirst", named := ["math/bits.deBruijn64tab"], apart := false, laid := [("math/bits.deBruijn64tab", laid_math_bits_deBruijn64tab)], narrowed := true }
def WordsFirstUptoSaid : Prop := wordsFirstUptoRow.holds Tryd.pinned (OpenSpec.upto wordsFirstSpec)

/-- 'bucketlinelaw01.WordsUnits', WHERE WHAT IT READS IS OF BULK AT MOST 1048576: true; the input reads as it did. -/
def wordsUnitsUptoRow : OpenClaim := { program := "ytkailkcfhkooeaadoor", sum := "93f4bec7ab7e0a2a30de082fd7dcb1713d45f80311bbee093f695d02a298ca85", func := "bucketline/bucketlinelaw01.WordsUnits", spec := "wordsUnits", named := ["math/bits.deBruijn64tab"], apart := false, laid := [("math/bits.deBruijn64tab", laid_math_bits_deBruijn64tab)], narrowed := true }
def WordsUnitsUptoSaid : Prop := wordsUnitsUptoRow.holds Tryd.pinned (OpenSpec.upto wordsUnitsSpec)

end Rows
end Go.Proofs.YtkailkcfhkooeaaDoor
