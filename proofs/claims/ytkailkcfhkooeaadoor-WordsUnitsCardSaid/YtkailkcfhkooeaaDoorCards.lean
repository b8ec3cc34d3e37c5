/-
  DERIVED. GIVEN WITH THE SEED: THE CARDS: each row of YtkailkcfhkooeaaDoorRows.lean that lists a variable, with what it lists TIED to the program's text (the seventh form; the later family's looks); each row that meets fmt, with fmt's text TOLD by the authors' own Lean function (tested against real Go, not proved from fmt's source: count such statements apart). THE CARD IS WHAT COUNTS. Prove the row's statement (the work); the ties are given (YtkailkcfhkooeaaDoorTie.lean); close each card by the builder's one call (the guide's Derived/Test/ToyasCard.lean, 'card_holds'). Laid BY PROGRAM, IN A SANDBOX (cutbox-door.mjs). By AI agents, Wed Nov 11 2026. No macro, syntax, notation, axiom, sorry.
-/
import Derived.Test.YtkailkcfhkooeaaDoorRows
import GoSem.ClaimSeven
namespace Go.Proofs.YtkailkcfhkooeaaDoor
namespace Rows

/-- THE TIED CARD OF 'bucketlinelaw01.WordsSizes'. -/
def wordsSizesCard : Claim7 := { stood := { row := wordsSizesRow, standIns := [], harness := (true, "bc0380640a793039867c4b296cccca402da5aff0fb2e3274c2f2ed951803b9aa"), looks := false }, kinds := [], alts := [], laidByText := true, laidKinds := [.data], laidTests := true, laidLooks := .later }
def WordsSizesCardSaid : Prop := Claim7.holds Tryd.pinned (.plain (OpenSpec.ofChange wordsSizesSpec)) wordsSizesCard

/-- THE TIED CARD OF 'bucketlinelaw01.WordsBits'. -/
def wordsBitsCard : Claim7 := { stood := { row := wordsBitsRow, standIns := [], harness := (true, "bc0380640a793039867c4b296cccca402da5aff0fb2e3274c2f2ed951803b9aa"), looks := false }, kinds := [], alts := [], laidByText := true, laidKinds := [.data], laidTests := true, laidLooks := .later }
def WordsBitsCardSaid : Prop := Claim7.holds Tryd.pinned (.plain (OpenSpec.ofChange wordsBitsSpec)) wordsBitsCard

/-- THE TIED CARD OF 'bucketlinelaw01.WordsXors'. -/
def wordsXorsCard : Claim7 := { stood := { row := wordsXorsRow, standIns := [], harness := (true, "bc0380640a793039867c4b296cccca402da5aff0fb2e3274c2f2ed951803b9aa"), looks := false }, kinds := [], alts := [], laidByText := true, laidKinds := [.data], laidTests := true, laidLooks := .later }
def WordsXorsCardSaid : Prop := Claim7.holds Tryd.pinned (.plain (OpenSpec.ofChange wordsXorsSpec)) wordsXorsCard

/-- THE TIED CARD OF 'bucketlinelaw01.WordsTwice'. -/
def wordsTwiceCard : Claim7 := { stood := { row := wordsTwiceRow, standIns := [], harness := (true, "bc0380640a793039867c4b296cccca402da5aff0fb2e3274c2f2ed951803b9aa"), looks := false }, kinds := [], alts := [], laidByText := true, laidKinds := [.data], laidTests := true, laidLooks := .later }
def WordsTwiceCardSaid : Prop := Claim7.holds Tryd.pinned (.plain (OpenSpec.ofChange wordsTwiceSpec)) wordsTwiceCard

/-- THE TIED CARD OF 'bucketlinelaw01.WordsFirst'. -/
def wordsFirstCard : Claim7 := { stood := { row := wordsFirstRow, standIns := [], harness := (true, "bc0380640a793039867c4b296cccca402da5aff0fb2e3274c2f2ed951803b9aa"), looks := false }, kinds := [], alts := [], laidByText := true, laidKinds := [.data], laidTests := true, laidLooks := .later }
def WordsFirstCardSaid : Prop := Claim7.holds Tryd.pinned (.plain (OpenSpec.ofChange wordsFirstSpec)) wordsFirstCard

/-- THE TIED CARD OF 'bucketlinelaw01.WordsUnits'. -/
def wordsUnitsCard : Claim7 := { stood := { row := wordsUnitsRow, standIns := [], harness := (true, "bc0380640a793039867c4b296cccca402da5aff0fb2e3274c2f2ed951803b9aa"), looks := false }, kinds := [], alts := [], laidByText := true, laidKinds := [.data], laidTests := true, laidLooks := .later }
def WordsUnitsCardSaid : Prop := Claim7.holds Tryd.pinned (.plain (OpenSpec.ofChange wordsUnitsSpec)) wordsUnitsCard

/-- THE SECOND FORM's CARD OF 'bucketlinelaw01.WordsSizes'. -/
def wordsSizesUptoCard : Claim7 := { stood := { row := wordsSizesUptoRow, standIns := [], harness := (true, "bc0380640a793039867c4b296cccca402da5aff0fb2e3274c2f2ed951803b9aa"), looks := false }, kinds := [], alts := [], laidByText := true, laidKinds := [.data], laidTests := true, laidLooks := .later }
def WordsSizesUptoCardSaid : Prop := Claim7.holds Tryd.pinned (.plain (OpenSpec.upto wordsSizesSpec)) wordsSizesUptoCard

/-- THE SECOND FORM's CARD OF 'bucketlinelaw01.WordsBits'. -/
def wordsBitsUptoCard : Claim7 := { stood := { row := wordsBitsUptoRow, standIns := [], harness := (true, "bc0380640a793039867c4b296cccca402da5aff0fb2e3274c2f2ed951803b9aa"), looks := false }, kinds := [], alts := [], laidByText := true, laidKinds := [.data], laidTests := true, laidLooks := .later }
def WordsBitsUptoCardSaid : Prop := Claim7.holds Tryd.pinned (.plain (OpenSpec.upto wordsBitsSpec)) wordsBitsUptoCard

/-- THE SECOND FORM's CARD OF 'bucketlinelaw01.WordsXors'. -/
def wordsXorsUptoCard : Claim7 := { stood := { row := wordsXorsUptoRow, standIns := [], harness := (true, "bc0380640a793039867c4b296cccca402da5aff0fb2e3274c2f2ed951803b9aa"), looks := false }, kinds := [], alts := [], laidByText := true, laidKinds := [.data], laidTests := true, laidLooks := .later }
def WordsXorsUptoCardSaid : Prop := Claim7.holds Tryd.pinned (.plain (OpenSpec.upto wordsXorsSpec)) wordsXorsUptoCard

/-- THE SECOND FORM's CARD OF 'bucketlinelaw01.WordsTwice'. -/
def wordsTwiceUptoCard : Claim7 := { stood := { row := wordsTwiceUptoRow, standIns := [], harness := (true, "bc0380640a793039867c4b296cccca402da5aff0fb2e3274c2f2ed951803b9aa"), looks := false }, kinds := [], alts := [], laidByText := true, laidKinds := [.data], laidTests := true, laidLooks := .later }
def WordsTwiceUptoCardSaid : Prop := Claim7.holds Tryd.pinned (.plain (OpenSpec.upto wordsTwiceSpec)) wordsTwiceUptoCard

/-- THE SECOND FORM's CARD OF 'bucketlinelaw01.WordsFirst'. -/
def wordsFirstUptoCard : Claim7 := { stood := { row := wordsFirstUptoRow, standIns := [], harness := (true, "bc0380640a793039867c4b296cccca402da5aff0fb2e3274c2f2ed951803b9aa"), looks := false }, kinds := [], alts := [], laidByText := true, laidKinds := [.data], laidTests := true, laidLooks := .later }
def WordsFirstUptoCardSaid : Prop := Claim7.holds Tryd.pinned (.plain (OpenSpec.upto wordsFirstSpec)) wordsFirstUptoCard

/-- THE SECOND FORM's CARD OF 'bucketlinelaw01.WordsUnits'. -/
def wordsUnitsUptoCard : Claim7 := { stood := { row := wordsUnitsUptoRow, standIns := [], harness := (true, "bc0380640a793039867c4b296cccca402da5aff0fb2e3274c2f2ed951803b9aa"), looks := false }, kinds := [], alts := [], laidByText := true, laidKinds := [.data], laidTests := true, laidLooks := .later }
def WordsUnitsUptoCardSaid : Prop := Claim7.holds Tryd.pinned (.plain (OpenSpec.upto wordsUnitsSpec)) wordsUnitsUptoCard
end Rows
end Go.Proofs.YtkailkcfhkooeaaDoor
