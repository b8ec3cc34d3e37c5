/-
  No cell of these rows narrows 'for every input' (looked for: loops, veiled, ifaces, maps, wideKeys, modest, calm, conditions, laid).
  DERIVED. THE GIVEN ROWS OF THIS SEAT. 5 by the template 'for every input the law returns true; each argument reads behind the call as it read before'; 0 by the template 'total and deterministic' (their statements: YtkailkcfhkooeaaTotals.lean).
  GIVEN WITH THE SEED: the statements are not yours to turn. If you find one false, say at which input.
  Laid BY PROGRAM, IN A SANDBOX (cutbox-rows.mjs): the forced cells as the released guide's own fill.sh prints them over the translation 11ab8e2e0d47e157… (all of the seat's roots in one cut). By AI agents, Wed Nov 11 2026. No macro, syntax, notation, axiom, sorry.
-/
import Derived.Test.YtkailkcfhkooeaaChecked
import GoSem.Claim
import GoSem.ClaimJoined
import GoSem.ClaimMapViews
import Derived.JoinedTies
import Derived.KernelRfl
namespace Go.Proofs.Ytkailkcfhkooeaa
/- THE CELL 'sum', in the pinned program and in every row, IS THE sha256 OF THE DUMP (.gsa) THAT YtkailkcfhkooeaaProg.lean LOADS. Nothing in Lean hashes anything: it is a label: what it is worth is what the hold of that sum in a sandbox is worth. -/
noncomputable def Try.pinned : Pinned := { name := "ytkailkcfhkooeaa", sum := "11ab8e2e0d47e157bc42f21a73e5b53ac69ee060476e1cf4bacb5e8c696b3a8a", checked := Try.checked }
namespace Rows
def none {H : Type} : Left H := { results := [], args := [] }

/-- 'bucketlinelaw06.NumsPuts': WHATEVER THE INPUT: true; the input reads as it did. -/
def numsPutsSpec : ChangeSpec := { name := "numsPuts", fn := fun _ => fun
  | [d1, d2, d3] => { results := [.lit (.bool true)], args := [d1, d2, d3] }
  | _ => none }
def numsPutsRow : OpenClaim := { program := "ytkailkcfhkooeaa", sum := "11ab8e2e0d47e157bc42f21a73e5b53ac69ee060476e1cf4bacb5e8c696b3a8a", func := "bucketline/bucketlinelaw06.NumsPuts", spec := "numsPuts", apart := false }
def NumsPutsSaid : Prop := numsPutsRow.holds Try.pinned (OpenSpec.ofChange numsPutsSpec)

/-- ITS FALSE NEIGHBOUR: 'it returns false'. Refute it at one input. -/
def numsPutsWrong : ChangeSpec := { name := "numsPuts", fn := fun _ => fun
  | [d1, d2, d3] => { results := [.lit (.bool false)], args := [d1, d2, d3] }
  | _ => none }
def NumsPutsWrongFalsely : Prop := numsPutsRow.holds Try.pinned (OpenSpec.ofChange numsPutsWrong)

/-- 'bucketlinelaw06.NumsGets': WHATEVER THE INPUT: true; the input reads as it did. -/
def numsGetsSpec : ChangeSpec := { name := "numsGets", fn := fun _ => fun
  | [d1, d2] => { results := [.lit (.bool true)], args := [d1, d2] }
  | _ => none }
def numsGetsRow : OpenClaim := { program := "ytkailkcfhkooeaa", sum := "11ab8e2e0d47e157bc42f21a73e5b53ac69ee060476e1cf4bacb5e8c696b3a8a", func := "bucketline/bucketlinelaw06.NumsGets", spec := "numsGets", apart := false }
def NumsGetsSaid : Prop := numsGetsRow.holds Try.pinned (OpenSpec.ofChange numsGetsSpec)

/-- ITS FALSE NEIGHBOUR: 'it returns false'. Refute it at one input. -/
def numsGetsWrong : ChangeSpec := { name := "numsGets", fn := fun _ => fun
  | [d1, d2] => { results := [.lit (.bool false)], args := [d1, d2] }
  | _ => none }
def NumsGetsWrongFalsely : Prop := numsGetsRow.holds Try.pinned (OpenSpec.ofChange numsGetsWrong)

/-- 'bucketlinelaw06.NumsVecs': WHATEVER THE INPUT: true; the input reads as it did. -/
def numsVecsSpec : ChangeSpec := { name := "numsVecs", fn := fun _ => fun
  | [d1, d2] => { results := [.lit (.bool true)], args := [d1, d2] }
  | _ => none }
def numsVecsRow : OpenClaim := { program := "ytkailkcfhkooeaa", sum := "11ab8e2e0d47e157bc42f21a73e5b53ac69ee060476e1cf4bacb5e8c696b3a8a", func := "bucketline/bucketlinelaw06.NumsVecs", spec := "numsVecs", apart := false }
def NumsVecsSaid : Prop := numsVecsRow.holds Try.pinned (OpenSpec.ofChange numsVecsSpec)

/-- ITS FALSE NEIGHBOUR: 'it returns false'. Refute it at one input. -/
def numsVecsWrong : ChangeSpec := { name := "numsVecs", fn := fun _ => fun
  | [d1, d2] => { results := [.lit (.bool false)], args := [d1, d2] }
  | _ => none }
def NumsVecsWrongFalsely : Prop := numsVecsRow.holds Try.pinned (OpenSpec.ofChange numsVecsWrong)

/-- 'bucketlinelaw06.NumsBack': WHATEVER THE INPUT: true; the input reads as it did. -/
def numsBackSpec : ChangeSpec := { name := "numsBack", fn := fun _ => fun
  | [d1, d2] => { results := [.lit (.bool true)], args := [d1, d2] }
  | _ => none }
def numsBackRow : OpenClaim := { program := "ytkailkcfhkooeaa", sum := "11ab8e2e0d47e157bc42f21a73e5b53ac69ee060476e1cf4bacb5e8c696b3a8a", func := "bucketline/bucketlinelaw06.NumsBack", spec := "numsBack", apart := false }
def NumsBackSaid : Prop := numsBackRow.holds Try.pinned (OpenSpec.ofChange numsBackSpec)

/-- ITS FALSE NEIGHBOUR: 'it returns false'. Refute it at one input. -/
def numsBackWrong : ChangeSpec := { name := "numsBack", fn := fun _ => fun
  | [d1, d2] => { results := [.lit (.bool false)], args := [d1, d2] }
  | _ => none }
def NumsBackWrongFalsely : Prop := numsBackRow.holds Try.pinned (OpenSpec.ofChange numsBackWrong)

/-- 'bucketlinelaw06.NumsRows': WHATEVER THE INPUT: true; the input reads as it did. -/
def numsRowsSpec : ChangeSpec := { name := "numsRows", fn := fun _ => fun
  | [d1, d2, d3] => { results := [.lit (.bool true)], args := [d1, d2, d3] }
  | _ => none }
def numsRowsRow : OpenClaim := { program := "ytkailkcfhkooeaa", sum := "11ab8e2e0d47e157bc42f21a73e5b53ac69ee060476e1cf4bacb5e8c696b3a8a", func := "bucketline/bucketlinelaw06.NumsRows", spec := "numsRows", apart := false }
def NumsRowsSaid : Prop := numsRowsRow.holds Try.pinned (OpenSpec.ofChange numsRowsSpec)

/-- ITS FALSE NEIGHBOUR: 'it returns false'. Refute it at one input. -/
def numsRowsWrong : ChangeSpec := { name := "numsRows", fn := fun _ => fun
  | [d1, d2, d3] => { results := [.lit (.bool false)], args := [d1, d2, d3] }
  | _ => none }
def NumsRowsWrongFalsely : Prop := numsRowsRow.holds Try.pinned (OpenSpec.ofChange numsRowsWrong)

/- THE SECOND FORM. 'bulk': how many values and letters a reading holds, each counted each time it is reached (what is shared counts as often as it is met; a slice's spare places count too). A statement '..UptoSaid' is the law's where the arguments, and the package variables that the reading takes, are together of bulk at most 1048576: NARROWER than '..Said'. Prove '..Said' where nothing that the law and all that it calls make is longer than what came in: it says more and counts as full. Else prove '..UptoSaid'. A law counts once. -/
mutual
def uptoBulk {H : Type} : DataW H → Nat
  | .lit (.string bytes) => bytes.length + 1
  | .lit _ => 1
  | .nil => 1
  | .ptr d => uptoBulk d + 1
  | .slice elems spare => uptoBulkAll elems + uptoBulkAll spare + 1
  | .agg parts => uptoBulkAll parts + 1
  | .iface _ d => uptoBulk d + 1
  | .map entries => uptoBulkEntries entries + 1
  | .held _ => 1
def uptoBulkAll {H : Type} : List (DataW H) → Nat
  | [] => 0
  | d :: r => uptoBulk d + uptoBulkAll r
def uptoBulkEntries {H : Type} : List (Lit × DataW H) → Nat
  | [] => 0
  | x :: r => uptoBulkEntry x + uptoBulkEntries r
def uptoBulkEntry {H : Type} : Lit × DataW H → Nat
  | (.string bytes, d) => bytes.length + uptoBulk d + 1
  | (_, d) => uptoBulk d + 1
 end
def uptoSmall : (H : Type) → List (DataW H) → Bool := fun _ ds => decide (uptoBulkAll ds ≤ 1048576)
def OpenSpec.upto (s : _root_.Go.ChangeSpec) : _root_.Go.OpenSpec := { _root_.Go.OpenSpec.ofChange s with cond := some uptoSmall }

/-- 'bucketlinelaw06.NumsPuts', WHERE WHAT IT READS IS OF BULK AT MOST 1048576: true; the input reads as it did. -/
def numsPutsUptoRow : OpenClaim := { program := "ytkailkcfhkooeaa", sum := "11ab8e2e0d47e157bc42f21a73e5b53ac69ee060476e1cf4bacb5e8c696b3a8a", func := "bucketline/bucketlinelaw06.NumsPuts", spec := "numsPuts", apart := false, narrowed := true }
def NumsPutsUptoSaid : Prop := numsPutsUptoRow.holds Try.pinned (OpenSpec.upto numsPutsSpec)

/-- 'bucketlinelaw06.NumsGets', WHERE WHAT IT READS IS OF BULK AT MOST 1048576: true; the input reads as it did. -/
def numsGetsUptoRow : OpenClaim := { program := "ytkailkcfhkooeaa", sum := "11ab8e2e0d47e157bc42f21a73e5b53ac69ee060476e1cf4bacb5e8c696b3a8a", func := "bucketline/bucketlinelaw06.NumsGets", spec := "numsGets", apart := false, narrowed := true }
def NumsGetsUptoSaid : Prop := numsGetsUptoRow.holds Try.pinned (OpenSpec.upto numsGetsSpec)

/-- 'bucketlinelaw06.NumsVecs', WHERE WHAT IT READS IS OF BULK AT MOST 1048576: true; the input reads as it did. -/
def numsVecsUptoRow : OpenClaim := { program := "ytkailkcfhkooeaa", sum := "11ab8e2e0d47e157bc42f21a73e5b53ac69ee060476e1cf4bacb5e8c696b3a8a", func := "bucketline/bucketlinelaw06.NumsVecs", spec := "numsVecs", apart := false, narrowed := true }
def NumsVecsUptoSaid : Prop := numsVecsUptoRow.holds Try.pinned (OpenSpec.upto numsVecsSpec)

/-- 'bucketlinelaw06.NumsBack', WHERE WHAT IT READS IS OF BULK AT MOST 1048576: true; the input reads as it did. -/
def numsBackUptoRow : OpenClaim := { program := "ytkailkcfhkooeaa", sum := "11ab8e2e0d47e157bc42f21a73e5b53ac69ee060476e1cf4bacb5e8c696b3a8a", func := "bucketline/bucketlinelaw06.NumsBack", spec := "numsBack", apart := false, narrowed := true }
def NumsBackUptoSaid : Prop := numsBackUptoRow.holds Try.pinned (OpenSpec.upto numsBackSpec)

/-- 'bucketlinelaw06.NumsRows', WHERE WHAT IT READS IS OF BULK AT MOST 1048576: true; the input reads as it did. -/
def numsRowsUptoRow : OpenClaim := { program := "ytkailkcfhkooeaa", sum := "11ab8e2e0d47e157bc42f21a73e5b53ac69ee060476e1cf4bacb5e8c696b3a8a", func := "bucketline/bucketlinelaw06.NumsRows", spec := "numsRows", apart := false, narrowed := true }
def NumsRowsUptoSaid : Prop := numsRowsUptoRow.holds Try.pinned (OpenSpec.upto numsRowsSpec)

end Rows
end Go.Proofs.Ytkailkcfhkooeaa
