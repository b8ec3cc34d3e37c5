/-
  DERIVED. GIVEN WITH THE SEED: THE CARDS: each row of YtbcphdbcdjdfpaaDoorRows.lean that lists a variable, with what it lists TIED to the program's text (the seventh form; the later family's looks); each row that meets fmt, with fmt's text TOLD by the authors' own Lean function (tested against real Go, not proved from fmt's source: count such statements apart). THE CARD IS WHAT COUNTS. Prove the row's statement (the work); the ties are given (YtbcphdbcdjdfpaaDoorTie.lean); close each card by the builder's one call (the guide's Derived/Test/ToyasCard.lean, 'card_holds'). Laid BY PROGRAM, IN A SANDBOX (cutbox-door.mjs). By AI agents, Wed Nov 11 2026. No macro, syntax, notation, axiom, sorry.
-/
import Derived.Test.YtbcphdbcdjdfpaaDoorRows
import GoSem.ClaimSeven
namespace Go.Proofs.YtbcphdbcdjdfpaaDoor
namespace Rows

/-- THE TIED CARD OF 'bucketlinelaw23.SeenPrints'. -/
def seenPrintsCard : Claim7 := { stood := { row := seenPrintsRow, standIns := [], harness := (true, "f38ceb1762ba80ab5fc5191774f22d0cfb0104dfe43cd8deb31d8e2a65d52b26"), looks := false }, kinds := [], alts := [], laidByText := true, laidKinds := [.data], laidTests := true, laidLooks := .later }
def SeenPrintsCardSaid : Prop := Claim7.holds Tryd.pinned (.plain (OpenSpec.ofChange seenPrintsSpec)) seenPrintsCard

/-- THE TIED CARD OF 'bucketlinelaw23.SeenPlays'. -/
def seenPlaysCard : Claim7 := { stood := { row := seenPlaysRow, standIns := [], harness := (true, "f38ceb1762ba80ab5fc5191774f22d0cfb0104dfe43cd8deb31d8e2a65d52b26"), looks := false }, kinds := [], alts := [], laidByText := true, laidKinds := [.data], laidTests := true, laidLooks := .later }
def SeenPlaysCardSaid : Prop := Claim7.holds Tryd.pinned (.plain (OpenSpec.ofChange seenPlaysSpec)) seenPlaysCard

/-- THE TIED CARD OF 'bucketlinelaw23.SeenTwice'. -/
def seenTwiceCard : Claim7 := { stood := { row := seenTwiceRow, standIns := [], harness := (true, "f38ceb1762ba80ab5fc5191774f22d0cfb0104dfe43cd8deb31d8e2a65d52b26"), looks := false }, kinds := [], alts := [], laidByText := true, laidKinds := [.data], laidTests := true, laidLooks := .later }
def SeenTwiceCardSaid : Prop := Claim7.holds Tryd.pinned (.plain (OpenSpec.ofChange seenTwiceSpec)) seenTwiceCard

/-- THE TIED CARD OF 'bucketlinelaw23.SeenLast'. -/
def seenLastCard : Claim7 := { stood := { row := seenLastRow, standIns := [], harness := (true, "f38ceb1762ba80ab5fc5191774f22d0cfb0104dfe43cd8deb31d8e2a65d52b26"), looks := false }, kinds := [], alts := [], laidByText := true, laidKinds := [.data], laidTests := true, laidLooks := .later }
def SeenLastCardSaid : Prop := Claim7.holds Tryd.pinned (.plain (OpenSpec.ofChange seenLastSpec)) seenLastCard

/-- THE TIED CARD OF 'bucketlinelaw23.SeenNone'. -/
def seenNoneCard : Claim7 := { stood := { row := seenNoneRow, standIns := [], harness := (true, "f38ceb1762ba80ab5fc5191774f22d0cfb0104dfe43cd8deb31d8e2a65d52b26"), looks := false }, kinds := [], alts := [], laidByText := true, laidKinds := [.data], laidTests := true, laidLooks := .later }
def SeenNoneCardSaid : Prop := Claim7.holds Tryd.pinned (.plain (OpenSpec.ofChange seenNoneSpec)) seenNoneCard

/-- THE TIED CARD OF 'bucketlinelaw07.PacketChecks'. -/
def packetChecksCard : Claim7 := { stood := { row := packetChecksRow, standIns := [], harness := (true, "f38ceb1762ba80ab5fc5191774f22d0cfb0104dfe43cd8deb31d8e2a65d52b26"), looks := false }, kinds := [], alts := [], laidByText := true, laidKinds := [.data], laidTests := true, laidLooks := .later }
def PacketChecksCardSaid : Prop := Claim7.holds Tryd.pinned (.plain (OpenSpec.ofChange packetChecksSpec)) packetChecksCard

/-- THE TIED CARD OF 'bucketlinelaw07.PacketEncodes'. -/
def packetEncodesCard : Claim7 := { stood := { row := packetEncodesRow, standIns := [], harness := (true, "f38ceb1762ba80ab5fc5191774f22d0cfb0104dfe43cd8deb31d8e2a65d52b26"), looks := false }, kinds := [], alts := [], laidByText := true, laidKinds := [.data], laidTests := true, laidLooks := .later }
def PacketEncodesCardSaid : Prop := Claim7.holds Tryd.pinned (.plain (OpenSpec.ofChange packetEncodesSpec)) packetEncodesCard

/-- THE TIED CARD OF 'bucketlinelaw07.PacketDecodes'. -/
def packetDecodesCard : Claim7 := { stood := { row := packetDecodesRow, standIns := [], harness := (true, "f38ceb1762ba80ab5fc5191774f22d0cfb0104dfe43cd8deb31d8e2a65d52b26"), looks := false }, kinds := [], alts := [], laidByText := true, laidKinds := [.data], laidTests := true, laidLooks := .later }
def PacketDecodesCardSaid : Prop := Claim7.holds Tryd.pinned (.plain (OpenSpec.ofChange packetDecodesSpec)) packetDecodesCard

/-- THE TIED CARD OF 'bucketlinelaw07.PacketBack'. -/
def packetBackCard : Claim7 := { stood := { row := packetBackRow, standIns := [], harness := (true, "f38ceb1762ba80ab5fc5191774f22d0cfb0104dfe43cd8deb31d8e2a65d52b26"), looks := false }, kinds := [], alts := [], laidByText := true, laidKinds := [.data], laidTests := true, laidLooks := .later }
def PacketBackCardSaid : Prop := Claim7.holds Tryd.pinned (.plain (OpenSpec.ofChange packetBackSpec)) packetBackCard

/-- THE TIED CARD OF 'bucketlinelaw07.PacketShort'. -/
def packetShortCard : Claim7 := { stood := { row := packetShortRow, standIns := [], harness := (true, "f38ceb1762ba80ab5fc5191774f22d0cfb0104dfe43cd8deb31d8e2a65d52b26"), looks := false }, kinds := [], alts := [], laidByText := true, laidKinds := [.data], laidTests := true, laidLooks := .later }
def PacketShortCardSaid : Prop := Claim7.holds Tryd.pinned (.plain (OpenSpec.ofChange packetShortSpec)) packetShortCard

/-- THE SECOND FORM's CARD OF 'bucketlinelaw23.SeenPrints'. -/
def seenPrintsUptoCard : Claim7 := { stood := { row := seenPrintsUptoRow, standIns := [], harness := (true, "f38ceb1762ba80ab5fc5191774f22d0cfb0104dfe43cd8deb31d8e2a65d52b26"), looks := false }, kinds := [], alts := [], laidByText := true, laidKinds := [.data], laidTests := true, laidLooks := .later }
def SeenPrintsUptoCardSaid : Prop := Claim7.holds Tryd.pinned (.plain (OpenSpec.upto seenPrintsSpec)) seenPrintsUptoCard

/-- THE SECOND FORM's CARD OF 'bucketlinelaw23.SeenPlays'. -/
def seenPlaysUptoCard : Claim7 := { stood := { row := seenPlaysUptoRow, standIns := [], harness := (true, "f38ceb1762ba80ab5fc5191774f22d0cfb0104dfe43cd8deb31d8e2a65d52b26"), looks := false }, kinds := [], alts := [], laidByText := true, laidKinds := [.data], laidTests := true, laidLooks := .later }
def SeenPlaysUptoCardSaid : Prop := Claim7.holds Tryd.pinned (.plain (OpenSpec.upto seenPlaysSpec)) seenPlaysUptoCard

/-- THE SECOND FORM's CARD OF 'bucketlinelaw23.SeenTwice'. -/
def seenTwiceUptoCard : Claim7 := { stood := { row := seenTwiceUptoRow, standIns := [], harness := (true, "f38ceb1762ba80ab5fc5191774f22d0cfb0104dfe43cd8deb31d8e2a65d52b26"), looks := false }, kinds := [], alts := [], laidByText := true, laidKinds := [.data], laidTests := true, laidLooks := .later }
def SeenTwiceUptoCardSaid : Prop := Claim7.holds Tryd.pinned (.plain (OpenSpec.upto seenTwiceSpec)) seenTwiceUptoCard

/-- THE SECOND FORM's CARD OF 'bucketlinelaw23.SeenLast'. -/
def seenLastUptoCard : Claim7 := { stood := { row := seenLastUptoRow, standIns := [], harness := (true, "f38ceb1762ba80ab5fc5191774f22d0cfb0104dfe43cd8deb31d8e2a65d52b26"), looks := false }, kinds := [], alts := [], laidByText := true, laidKinds := [.data], laidTests := true, laidLooks := .later }
def SeenLastUptoCardSaid : Prop := Claim7.holds Tryd.pinned (.plain (OpenSpec.upto seenLastSpec)) seenLastUptoCard

/-- THE SECOND FORM's CARD OF 'bucketlinelaw23.SeenNone'. -/
def seenNoneUptoCard : Claim7 := { stood := { row := seenNoneUptoRow, standIns := [], harness := (true, "f38ceb1762ba80ab5fc5191774f22d0cfb0104dfe43cd8deb31d8e2a65d52b26"), looks := false }, kinds := [], alts := [], laidByText := true, laidKinds := [.data], laidTests := true, laidLooks := .later }
def SeenNoneUptoCardSaid : Prop := Claim7.holds Tryd.pinned (.plain (OpenSpec.upto seenNoneSpec)) seenNoneUptoCard

/-- THE SECOND FORM's CARD OF 'bucketlinelaw07.PacketChecks'. -/
def packetChecksUptoCard : Claim7 := { stood := { row := packetChecksUptoRow, standIns := [], harness := (true, "f38ceb1762ba80ab5fc5191774f22d0cfb0104dfe43cd8deb31d8e2a65d52b26"), looks := false }, kinds := [], alts := [], laidByText := true, laidKinds := [.data], laidTests := true, laidLooks := .later }
def PacketChecksUptoCardSaid : Prop := Claim7.holds Tryd.pinned (.plain (OpenSpec.upto packetChecksSpec)) packetChecksUptoCard

/-- THE SECOND FORM's CARD OF 'bucketlinelaw07.PacketEncodes'. -/
def packetEncodesUptoCard : Claim7 := { stood := { row := packetEncodesUptoRow, standIns := [], harness := (true, "f38ceb1762ba80ab5fc5191774f22d0cfb0104dfe43cd8deb31d8e2a65d52b26"), looks := false }, kinds := [], alts := [], laidByText := true, laidKinds := [.data], laidTests := true, laidLooks := .later }
def PacketEncodesUptoCardSaid : Prop := Claim7.holds Tryd.pinned (.plain (OpenSpec.upto packetEncodesSpec)) packetEncodesUptoCard

/-- THE SECOND FORM's CARD OF 'bucketlinelaw07.PacketDecodes'. -/
def packetDecodesUptoCard : Claim7 := { stood := { row := packetDecodesUptoRow, standIns := [], harness := (true, "f38ceb1762ba80ab5fc5191774f22d0cfb0104dfe43cd8deb31d8e2a65d52b26"), looks := false }, kinds := [], alts := [], laidByText := true, laidKinds := [.data], laidTests := true, laidLooks := .later }
def PacketDecodesUptoCardSaid : Prop := Claim7.holds Tryd.pinned (.plain (OpenSpec.upto packetDecodesSpec)) packetDecodesUptoCard

/-- THE SECOND FORM's CARD OF 'bucketlinelaw07.PacketBack'. -/
def packetBackUptoCard : Claim7 := { stood := { row := packetBackUptoRow, standIns := [], harness := (true, "f38ceb1762ba80ab5fc5191774f22d0cfb0104dfe43cd8deb31d8e2a65d52b26"), looks := false }, kinds := [], alts := [], laidByText := true, laidKinds := [.data], laidTests := true, laidLooks := .later }
def PacketBackUptoCardSaid : Prop := Claim7.holds Tryd.pinned (.plain (OpenSpec.upto packetBackSpec)) packetBackUptoCard

/-- THE SECOND FORM's CARD OF 'bucketlinelaw07.PacketShort'. -/
def packetShortUptoCard : Claim7 := { stood := { row := packetShortUptoRow, standIns := [], harness := (true, "f38ceb1762ba80ab5fc5191774f22d0cfb0104dfe43cd8deb31d8e2a65d52b26"), looks := false }, kinds := [], alts := [], laidByText := true, laidKinds := [.data], laidTests := true, laidLooks := .later }
def PacketShortUptoCardSaid : Prop := Claim7.holds Tryd.pinned (.plain (OpenSpec.upto packetShortSpec)) packetShortUptoCard
end Rows
end Go.Proofs.YtbcphdbcdjdfpaaDoor
