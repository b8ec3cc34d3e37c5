/-
  NARROWER THAN 'FOR EVERY INPUT', by the rows' own cells (each row's printed sentence says how): SeenPrints: laid · SeenPlays: laid · SeenTwice: laid · SeenLast: laid · SeenNone: laid · PacketChecks: laid · PacketEncodes: laid · PacketDecodes: laid · PacketBack: laid · PacketShort: laid.
  DERIVED. THE GIVEN ROWS OF THIS SEAT. 10 by the template 'for every input the law returns true; each argument reads behind the call as it read before'; 0 by the template 'total and deterministic' (their statements: YtbcphdbcdjdfpaaDoorTotals.lean).
  GIVEN WITH THE SEED: the statements are not yours to turn. If you find one false, say at which input.
  Laid BY PROGRAM, IN A SANDBOX (cutbox-rows.mjs): the forced cells as the released guide's own fill.sh prints them over the translation bf0d62950dc9b633… (all of the seat's roots in one cut). By AI agents, Wed Nov 11 2026. No macro, syntax, notation, axiom, sorry.
-/
import Derived.Test.YtbcphdbcdjdfpaaDoorChecked
import GoSem.Claim
import GoSem.ClaimJoined
import GoSem.ClaimMapViews
import Derived.JoinedTies
import Derived.KernelRfl
namespace Go.Proofs.YtbcphdbcdjdfpaaDoor
/- THE CELL 'sum', in the pinned program and in every row, IS THE sha256 OF THE DUMP (.gsa) THAT YtbcphdbcdjdfpaaDoorProg.lean LOADS. Nothing in Lean hashes anything: it is a label: what it is worth is what the hold of that sum in a sandbox is worth. -/
noncomputable def Tryd.pinned : Pinned := { name := "ytbcphdbcdjdfpaadoor", sum := "bf0d62950dc9b63367090231998583e1fd9f579f7e9b94b6e789d1a25e603e08", checked := Tryd.checked }
namespace Rows
def none {H : Type} : Left H := { results := [], args := [] }

/- WHAT THE LISTED PACKAGE-LEVEL VARIABLES READ AS WHEN THE CALL BEGINS. Each datum BY PROGRAM (the guide's laid-datum.mjs) off the statement by which the dump's own 'gosem.cut.vars' lays the variable. In a bare row this is a premise. The card (YtbcphdbcdjdfpaaDoorCards.lean) ties it to the program's text. -/
def laid_math_bits_deBruijn64tab {H : Type} : DataW H := .agg [.lit (.int .u8 0), .lit (.int .u8 1), .lit (.int .u8 56), .lit (.int .u8 2), .lit (.int .u8 57), .lit (.int .u8 49), .lit (.int .u8 28), .lit (.int .u8 3), .lit (.int .u8 61), .lit (.int .u8 58), .lit (.int .u8 42), .lit (.int .u8 50), .lit (.int .u8 38), .lit (.int .u8 29), .lit (.int .u8 17), .lit (.int .u8 4), .lit (.int .u8 62), .lit (.int .u8 47), .lit (.int .u8 59), .lit (.int .u8 36), .lit (.int .u8 45), .lit (.int .u8 43), .lit (.int .u8 51), .lit (.int .u8 22), .lit (.int .u8 53), .lit (.int .u8 39), .lit (.int .u8 33), .lit (.int .u8 30), .lit (.int .u8 24), .lit (.int .u8 18), .lit (.int .u8 12), .lit (.int .u8 5), .lit (.int .u8 63), .lit (.int .u8 55), .lit (.int .u8 48), .lit (.int .u8 27), .lit (.int .u8 60), .lit (.int .u8 41), .lit (.int .u8 37), .lit (.int .u8 16), .lit (.int .u8 46), .lit (.int .u8 35), .lit (.int .u8 44), .lit (.int .u8 21), .lit (.int .u8 52), .lit (.int .u8 32), .lit (.int .u8 23), .lit (.int .u8 11), .lit (.int .u8 54), .lit (.int .u8 26), .lit (.int .u8 40), .lit (.int .u8 15), .lit (.int .u8 34), .lit (.int .u8 20), .lit (.int .u8 31), .lit (.int .u8 10), .lit (.int .u8 25), .lit (.int .u8 14), .lit (.int .u8 19), .lit (.int .u8 9), .lit (.int .u8 13), .lit (.int .u8 8), .lit (.int .u8 7), .lit (.int .u8 6)]

/-- 'bucketlinelaw23.SeenPrints': WHATEVER THE INPUT: true; the input reads as it did. -/
def seenPrintsSpec : ChangeSpec := { name := "seenPrints", fn := fun _ => fun
  | [d1, d2] => { results := [.lit (.bool true)], args := [d1, d2] }
  | _ => none }
def seenPrintsRow : OpenClaim := { program := "ytbcphdbcdjdfpaadoor", sum := "bf0d62950dc9b63367090231998583e1fd9f579f7e9b94b6e789d1a25e603e08", func := "bucketline/bucketlinelaw23.SeenPrints", spec := "seenPrints", named := ["math/bits.deBruijn64tab"], apart := false, laid := [("math/bits.deBruijn64tab", laid_math_bits_deBruijn64tab)] }
def SeenPrintsSaid : Prop := seenPrintsRow.holds Tryd.pinned (OpenSpec.ofChange seenPrintsSpec)

/-- ITS FALSE NEIGHBOUR: 'it returns false'. Refute it at one input. -/
def seenPrintsWrong : ChangeSpec := { name := "seenPrints", fn := fun _ => fun
  | [d1, d2] => { results := [.lit (.bool false)], args := [d1, d2] }
  | _ => none }
def SeenPrintsWrongFalsely : Prop := seenPrintsRow.holds Tryd.pinned (OpenSpec.ofChange seenPrintsWrong)

/-- 'bucketlinelaw23.SeenPlays': WHATEVER THE INPUT: true; the input reads as it did. -/
def seenPlaysSpec : ChangeSpec := { name := "seenPlays", fn := fun _ => fun
  | [d1, d2] => { results := [.lit (.bool true)], args := [d1, d2] }
  | _ => none }
def seenPlaysRow : OpenClaim := { program := "ytbcphdbcdjdfpaadoor", sum := "bf0d62950dc9b63367090231998583e1fd9f579f7e9b94b6e789d1a25e603e08", func := "bucketline/bucketlinelaw23.SeenPlays", spec := "seenPlays", named := ["math/bits.deBruijn64tab"], apart := false, laid := [("math/bits.deBruijn64tab", laid_math_bits_deBruijn64tab)] }
def SeenPlaysSaid : Prop := seenPlaysRow.holds Tryd.pinned (OpenSpec.ofChange seenPlaysSpec)

/-- ITS FALSE NEIGHBOUR: 'it returns false'. Refute it at one input. -/
def seenPlaysWrong : ChangeSpec := { name := "seenPlays", fn := fun _ => fun
  | [d1, d2] => { results := [.lit (.bool false)], args := [d1, d2] }
  | _ => none }
def SeenPlaysWrongFalsely : Prop := seenPlaysRow.holds Tryd.pinned (OpenSpec.ofChange seenPlaysWrong)

/-- 'bucketlinelaw23.SeenTwice': WHATEVER THE INPUT: true; the input reads as it did. -/
def seenTwiceSpec : ChangeSpec := { name := "seenTwice", fn := fun _ => fun
  | [d1, d2] => { results := [.lit (.bool true)], args := [d1, d2] }
  | _ => none }
def seenTwiceRow : OpenClaim := { program := "ytbcphdbcdjdfpaadoor", sum := "bf0d62950dc9b63367090231998583e1fd9f579f7e9b94b6e789d1a25e603e08", func := "bucketline/bucketlinelaw23.SeenTwice", spec := "seenTwice", named := ["math/bits.deBruijn64tab"], apart := false, laid := [("math/bits.deBruijn64tab", laid_math_bits_deBruijn64tab)] }
def SeenTwiceSaid : Prop := seenTwiceRow.holds Tryd.pinned (OpenSpec.ofChange seenTwiceSpec)

/-- ITS FALSE NEIGHBOUR: 'it returns false'. Refute it at one input. -/
def seenTwiceWrong : ChangeSpec := { name := "seenTwice", fn := fun _ => fun
  | [d1, d2] => { results := [.lit (.bool false)], args := [d1, d2] }
  | _ => none }
def SeenTwiceWrongFalsely : Prop := seenTwiceRow.holds Tryd.pinned (OpenSpec.ofChange seenTwiceWrong)

/-- 'bucketlinelaw23.SeenLast': WHATEVER THE INPUT: true; the input reads as it did. -/
def seenLastSpec : ChangeSpec := { name := "seenLast", fn := fun _ => fun
  | [d1, d2] => { results := [.lit (.bool true)], args := [d1, d2] }
  | _ => none }
def seenLastRow : OpenClaim := { program := "ytbcphdbcdjdfpaadoor", sum := "bf0d62950dc9b63367090231998583e1fd9f579f7e9b94b6e789d1a25e603e08", func := "bucketline/bucketlinelaw23.SeenLast", spec := "seenLast", named := ["math/bits.deBruijn64tab"], apart := false, laid := [("math/bits.deBruijn64tab", laid_math_bits_deBruijn64tab)] }
def SeenLastSaid : Prop := seenLastRow.holds Tryd.pinned (OpenSpec.ofChange seenLastSpec)

/-- ITS FALSE NEIGHBOUR: 'it returns false'. Refute it at one input. -/
def seenLastWrong : ChangeSpec := { name := "seenLast", fn := fun _ => fun
  | [d1, d2] => { results := [.lit (.bool false)], args := [d1, d2] }
  | _ => none }
def SeenLastWrongFalsely : Prop := seenLastRow.holds Tryd.pinned (OpenSpec.ofChange seenLastWrong)

/-- 'bucketlinelaw23.SeenNone': WHATEVER THE INPUT: true; the input reads as it did. -/
def seenNoneSpec : ChangeSpec := { name := "seenNone", fn := fun _ => fun
  | [d1, d2] => { results := [.lit (.bool true)], args := [d1, d2] }
  | _ => none }
def seenNoneRow : OpenClaim := { program := "ytbcphdbcdjdfpaadoor", sum := "bf0d62950dc9b63367090231998583e1fd9f579f7e9b94b6e789d1a25e603e08", func := "bucketline/bucketlinelaw23.SeenNone", spec := "seenNone", named := ["math/bits.deBruijn64tab"], apart := false, laid := [("math/bits.deBruijn64tab", laid_math_bits_deBruijn64tab)] }
def SeenNoneSaid : Prop := seenNoneRow.holds Tryd.pinned (OpenSpec.ofChange seenNoneSpec)

/-- ITS FALSE NEIGHBOUR: 'it returns false'. Refute it at one input. -/
def seenNoneWrong : ChangeSpec := { name := "seenNone", fn := fun _ => fun
  | [d1, d2] => { results := [.lit (.bool false)], args := [d1, d2] }
  | _ => none }
def SeenNoneWrongFalsely : Prop := seenNoneRow.holds Tryd.pinned (OpenSpec.ofChange seenNoneWrong)

/-- 'bucketlinelaw07.PacketChecks': WHATEVER THE INPUT: true; the input reads as it did. -/
def packetChecksSpec : ChangeSpec := { name := "packetChecks", fn := fun _ => fun
  | [d1, d2] => { results := [.lit (.bool true)], args := [d1, d2] }
  | _ => none }
def packetChecksRow : OpenClaim := { program := "ytbcphdbcdjdfpaadoor", sum := "bf0d62950dc9b63367090231998583e1fd9f579f7e9b94b6e789d1a25e603e08", func := "bucketline/bucketlinelaw07.PacketChecks", spec := "packetChecks", named := ["math/bits.deBruijn64tab"], apart := false, laid := [("math/bits.deBruijn64tab", laid_math_bits_deBruijn64tab)] }
def PacketChecksSaid : Prop := packetChecksRow.holds Tryd.pinned (OpenSpec.ofChange packetChecksSpec)

/-- ITS FALSE NEIGHBOUR: 'it returns false'. Refute it at one input. -/
def packetChecksWrong : ChangeSpec := { name := "packetChecks", fn := fun _ => fun
  | [d1, d2] => { results := [.lit (.bool false)], args := [d1, d2] }
  | _ => none }
def PacketChecksWrongFalsely : Prop := packetChecksRow.holds Tryd.pinned (OpenSpec.ofChange packetChecksWrong)

/-- 'bucketlinelaw07.PacketEncodes': WHATEVER THE INPUT: true; the input reads as it did. -/
def packetEncodesSpec : ChangeSpec := { name := "packetEncodes", fn := fun _ => fun
  | [d] => { results := [.lit (.bool true)], args := [d] }
  | _ => none }
def packetEncodesRow : OpenClaim := { program := "ytbcphdbcdjdfpaadoor", sum := "bf0d62950dc9b63367090231998583e1fd9f579f7e9b94b6e789d1a25e603e08", func := "bucketline/bucketlinelaw07.PacketEncodes", spec := "packetEncodes", named := ["math/bits.deBruijn64tab"], apart := false, laid := [("math/bits.deBruijn64tab", laid_math_bits_deBruijn64tab)] }
def PacketEncodesSaid : Prop := packetEncodesRow.holds Tryd.pinned (OpenSpec.ofChange packetEncodesSpec)

/-- ITS FALSE NEIGHBOUR: 'it returns false'. Refute it at one input. -/
def packetEncodesWrong : ChangeSpec := { name := "packetEncodes", fn := fun _ => fun
  | [d] => { results := [.lit (.bool false)], args := [d] }
  | _ => none }
def PacketEncodesWrongFalsely : Prop := packetEncodesRow.holds Tryd.pinned (OpenSpec.ofChange packetEncodesWrong)

/-- 'bucketlinelaw07.PacketDecodes': WHATEVER THE INPUT: true; the input reads as it did. -/
def packetDecodesSpec : ChangeSpec := { name := "packetDecodes", fn := fun _ => fun
  | [d] => { results := [.lit (.bool true)], args := [d] }
  | _ => none }
def packetDecodesRow : OpenClaim := { program := "ytbcphdbcdjdfpaadoor", sum := "bf0d62950dc9b63367090231998583e1fd9f579f7e9b94b6e789d1a25e603e08", func := "bucketline/bucketlinelaw07.PacketDecodes", spec := "packetDecodes", named := ["math/bits.deBruijn64tab"], apart := false, laid := [("math/bits.deBruijn64tab", laid_math_bits_deBruijn64tab)] }
def PacketDecodesSaid : Prop := packetDecodesRow.holds Tryd.pinned (OpenSpec.ofChange packetDecodesSpec)

/-- ITS FALSE NEIGHBOUR: 'it returns false'. Refute it at one input. -/
def packetDecodesWrong : ChangeSpec := { name := "packetDecodes", fn := fun _ => fun
  | [d] => { results := [.lit (.bool false)], args := [d] }
  | _ => none }
def PacketDecodesWrongFalsely : Prop := packetDecodesRow.holds Tryd.pinned (OpenSpec.ofChange packetDecodesWrong)

/-- 'bucketlinelaw07.PacketBack': WHATEVER THE INPUT: true; the input reads as it did. -/
def packetBackSpec : ChangeSpec := { name := "packetBack", fn := fun _ => fun
  | [d1, d2] => { results := [.lit (.bool true)], args := [d1, d2] }
  | _ => none }
def packetBackRow : OpenClaim := { program := "ytbcphdbcdjdfpaadoor", sum := "bf0d62950dc9b63367090231998583e1fd9f579f7e9b94b6e789d1a25e603e08", func := "bucketline/bucketlinelaw07.PacketBack", spec := "packetBack", named := ["math/bits.deBruijn64tab"], apart := false, laid := [("math/bits.deBruijn64tab", laid_math_bits_deBruijn64tab)] }
def PacketBackSaid : Prop := packetBackRow.holds Tryd.pinned (OpenSpec.ofChange packetBackSpec)

/-- ITS FALSE NEIGHBOUR: 'it returns false'. Refute it at one input. -/
def packetBackWrong : ChangeSpec := { name := "packetBack", fn := fun _ => fun
  | [d1, d2] => { results := [.lit (.bool false)], args := [d1, d2] }
  | _ => none }
def PacketBackWrongFalsely : Prop := packetBackRow.holds Tryd.pinned (OpenSpec.ofChange packetBackWrong)

/-- 'bucketlinelaw07.PacketShort': WHATEVER THE INPUT: true; the input reads as it did. -/
def packetShortSpec : ChangeSpec := { name := "packetShort", fn := fun _ => fun
  | [d1, d2] => { results := [.lit (.bool true)], args := [d1, d2] }
  | _ => none }
def packetShortRow : OpenClaim := { program := "ytbcphdbcdjdfpaadoor", sum := "bf0d62950dc9b63367090231998583e1fd9f579f7e9b94b6e789d1a25e603e08", func := "bucketline/bucketlinelaw07.PacketShort", spec := "packetShort", named := ["math/bits.deBruijn64tab"], apart := false, laid := [("math/bits.deBruijn64tab", laid_math_bits_deBruijn64tab)] }
def PacketShortSaid : Prop := packetShortRow.holds Tryd.pinned (OpenSpec.ofChange packetShortSpec)

/-- ITS FALSE NEIGHBOUR: 'it returns false'. Refute it at one input. -/
def packetShortWrong : ChangeSpec := { name := "packetShort", fn := fun _ => fun
  | [d1, d2] => { results := [.lit (.bool false)], args := [d1, d2] }
  | _ => none }
def PacketShortWrongFalsely : Prop := packetShortRow.holds Tryd.pinned (OpenSpec.ofChange packetShortWrong)

/- THE SECOND FORM. 'bulk': how many values and letters a reading holds, each counted each time it is reached (what is shared counts as often as it is met; a slice's spare places count too). A statement '..UptoSaid' is the law's where the arguments, and the package variables that the reading takes, are together of bulk at most 1048576: NARROWER than '..Said'. Prove '..Said' where nothing that the law and all that it calls make is longer than what came in: it says more and counts as full. Else prove '..UptoSaid'. A law counts once. -/
mutual
def uptoBulk {H : Type} : DataW H → Nat
  | .lit (.string bytes) => bytes.length + 1
  | .lit _ => 1
  | .nil => 1
  | .ptr d => uptoBulk d + 1
  | .slice elems spare => uptoBulkAll elems + uptoBulkAll spare + 1
  | .agg parts => uptoBulkAll parts + 1
  | .iface _ d => uptoBulk d + 1
  | .map entries => uptoBulkEntries entries + 1
  | .held _ => 1
def uptoBulkAll {H : Type} : List (DataW H) → Nat
  | [] => 0
  | d :: r => uptoBulk d + uptoBulkAll r
def uptoBulkEntries {H : Type} : List (Lit × DataW H) → Nat
  | [] => 0
  | x :: r => uptoBulkEntry x + uptoBulkEntries r
def uptoBulkEntry {H : Type} : Lit × DataW H → Nat
  | (.string bytes, d) => bytes.length + uptoBulk d + 1
  | (_, d) => uptoBulk d + 1
 end
def uptoSmall : (H : Type) → List (DataW H) → Bool := fun _ ds => decide (uptoBulkAll ds ≤ 1048576)
def OpenSpec.upto (s : _root_.Go.ChangeSpec) : _root_.Go.OpenSpec := { _root_.Go.OpenSpec.ofChange s with cond := some uptoSmall }

/-- 'bucketlinelaw23.SeenPrints', WHERE WHAT IT READS IS OF BULK AT MOST 1048576: true; the input reads as it did. -/
def seenPrintsUptoRow : OpenClaim := { program := "ytbcphdbcdjdfpaadoor", sum := "bf0d62950dc9b63367090231998583e1fd9f579f7e9b94b6e789d1a25e603e08", func := "bucketline/bucketlinelaw23.SeenPrints", spec := "seenPrints", named := ["math/bits.deBruijn64tab"], apart := false, laid := [("math/bits.deBruijn64tab", laid_math_bits_deBruijn64tab)], narrowed := true }
def SeenPrintsUptoSaid : Prop := seenPrintsUptoRow.holds Tryd.pinned (OpenSpec.upto seenPrintsSpec)

/-- 'bucketlinelaw23.SeenPlays', WHERE WHAT IT READS IS OF BULK AT MOST 1048576: true; the input reads as it did. -/
def seenPlaysUptoRow : OpenClaim := { program := "ytbcphdbcdjdfpaadoor", sum := "bf0d62950dc9b63367090231998583e1fd9f579f7e9b94b6e789d1a25e603e08", func := "bucketline/bucketlinelaw23.SeenPlays", spec := "seenPlays", named := ["math/bits.deBruijn64tab"], apart := false, laid := [("math/bits.deBruijn64tab", laid_math_bits_deBruijn64tab)], narrowed := true }
def SeenPlaysUptoSaid : Prop := seenPlaysUptoRow.holds Tryd.pinned (OpenSpec.upto seenPlaysSpec)

/-- 'bucketlinelaw23.SeenTwice', WHERE WHAT IT READS IS OF BULK AT MOST 1048576: true; the input reads as it did. -/
def seenTwiceUptoRow : OpenClaim := { program := "ytbcphdbcdjdfpaadoor", sum := "bf0d62950dc9b63367090231998583e1fd9f579f7e9b94b6e789d1a25e603e08", func := "bucketline/bucketlinelaw23.SeenTwice", spec := "seenTwice", named := ["math/bits.deBruijn64tab"], apart := false, laid := [("math/bits.deBruijn64tab", laid_math_bits_deBruijn64tab)], narrowed := true }
def SeenTwiceUptoSaid : Prop := seenTwiceUptoRow.holds Tryd.pinned (OpenSpec.upto seenTwiceSpec)

/-- 'bucketlinelaw23.SeenLast', WHERE WHAT IT READS IS OF BULK AT MOST 1048576: true; the input reads as it did. -/
def seenLastUptoRow : OpenClaim := { program := "ytbcphdbcdjdfpaadoor", sum := "bf0d62950dc9b63367090231998583e1fd9f579f7e9b94b6e789d1a25e603e08", func := "bucketline/bucketlinelaw23.SeenLast", spec := "seenLast", named := ["math/bits.deBruijn64tab"], apart := false, laid := [("math/bits.deBruijn64tab", laid_math_bits_deBruijn64tab)], narrowed := true }
def SeenLastUptoSaid : Prop := seenLastUptoRow.holds Tryd.pinned (OpenSpec.upto seenLastSpec)

/-- 'bucketlinelaw23.SeenNone', WHERE WHAT IT READS IS OF BULK AT MOST 1048576: true; the input reads as it did. -/
def seenNoneUptoRow : OpenClaim := { program := "ytbcphdbcdjdfpaadoor", sum := "bf0d62950dc9b63367090231998583e1fd9f579f7e9b94b6e789d1a25e603e08", func := "bucketline/bucketlinelaw23.SeenNone", spec := "seenNone", named := ["math/bits.deBruijn64tab"], apart := false, laid := [("math/bits.deBruijn64tab", laid_math_bits_deBruijn64tab)], narrowed := true }
def SeenNoneUptoSaid : Prop := seenNoneUptoRow.holds Tryd.pinned (OpenSpec.upto seenNoneSpec)

/-- 'bucketlinelaw07.PacketChecks', WHERE WHAT IT READS IS OF BULK AT MOST 1048576: true; the input reads as it did. -/
def packetChecksUptoRow : OpenClaim := { program := "ytbcphdbcdjdfpaadoor", sum := "bf0d62950dc9b63367090231998583e1fd9f579f7e9b94b6e789d1a25e603e08", func := "bucketline/bucketlinelaw07.PacketChecks", spec := "packetChecks", named := ["math/bits.deBruijn64tab"], apart := false, laid := [("math/bits.deBruijn64tab", laid_math_bits_deBruijn64tab)], narrowed := true }
def PacketChecksUptoSaid : Prop := packetChecksUptoRow.holds Tryd.pinned (OpenSpec.upto packetChecksSpec)

/-- 'bucketlinelaw07.PacketEncodes', WHERE WHAT IT READS IS OF BULK AT MOST 1048576: true; the input reads as it did. -/
def packetEncodesUptoRow : OpenClaim := { program := "ytbcphdbcdjdfpaadoor", sum := "bf0d62950dc9b63367090231998583e1fd9f579f7e9b94b6e789d1a25e603e08", func := "bucketline/bucketlinelaw07.PacketEncodes", spec := "packetEncodes", named := ["math/bits.deBruijn64tab"], apart := false, laid := [("math/bits.deBruijn64tab", laid_math_bits_deBruijn64tab)], narrowed := true }
def PacketEncodesUptoSaid : Prop := packetEncodesUptoRow.holds Tryd.pinned (OpenSpec.upto packetEncodesSpec)

/-- 'bucketlinelaw07.PacketDecodes', WHERE WHAT IT READS IS OF BULK AT MOST 1048576: true; the input reads as it did. -/
def packetDecodesUptoRow : OpenClaim := { program := "ytbcphdbcdjdfpaadoor", sum := "bf0d62950dc9b63367090231998583e1fd9f579f7e9b94b6e789d1a25e603e08", func := "bucketline/bucketlinelaw07.PacketDecodes", spec := "packetDecodes", named := ["math/bits.deBruijn64tab"], apart := false, laid := [("math/bits.deBruijn64tab", laid_math_bits_deBruijn64tab)], narrowed := true }
def PacketDecodesUptoSaid : Prop := packetDecodesUptoRow.holds Tryd.pinned (OpenSpec.upto packetDecodesSpec)

/-- 'bucketlinelaw07.PacketBack', WHERE WHAT IT READS IS OF BULK AT MOST 1048576: true; the input reads as it did. -/
def packetBackUptoRow : OpenClaim := { program := "ytbcphdbcdjdfpaadoor", sum := "bf0d62950dc9b63367090231998583e1fd9f579f7e9b94b6e789d1a25e603e08", func := "bucketline/bucketlinelaw07.PacketBack", spec := "packetBack", named := ["math/bits.deBruijn64tab"], apart := false, laid := [("math/bits.deBruijn64tab", laid_math_bits_deBruijn64tab)], narrowed := true }
def PacketBackUptoSaid : Prop := packetBackUptoRow.holds Tryd.pinned (OpenSpec.upto packetBackSpec)

/-- 'bucketlinelaw07.PacketShort', WHERE WHAT IT READS IS OF BULK AT MOST 1048576: true; the input reads as it did. -/
def packetShortUptoRow : OpenClaim := { program := "ytbcphdbcdjdfpaadoor", sum := "bf0d62950dc9b63367090231998583e1fd9f579f7e9b94b6e789d1a25e603e08", func := "bucketline/bucketlinelaw07.PacketShort", spec := "packetShort", named := ["math/bits.deBruijn64tab"], apart := false, laid := [("math/bits.deBruijn64tab", laid_math_bits_deBruijn64tab)], narrowed := true }
def PacketShortUptoSaid : Prop := packetShortUptoRow.holds Tryd.pinned (OpenSpec.upto packetShortSpec)

end Rows
end Go.Proofs.YtbcphdbcdjdfpaaDoor
