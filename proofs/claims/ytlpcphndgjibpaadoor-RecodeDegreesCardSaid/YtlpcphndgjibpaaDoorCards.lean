/-
  DERIVED. GIVEN WITH THE SEED: THE CARDS: each row of YtlpcphndgjibpaaDoorRows.lean that lists a variable, with what it lists TIED to the program's text (the seventh form; the later family's looks); each row that meets fmt, with fmt's text TOLD by the authors' own Lean function (tested against real Go, not proved from fmt's source: count such statements apart). THE CARD IS WHAT COUNTS. Prove the row's statement (the work); the ties are given (YtlpcphndgjibpaaDoorTie.lean); close each card by the builder's one call (the guide's Derived/Test/ToyasCard.lean, 'card_holds'). Laid BY PROGRAM, IN A SANDBOX (cutbox-door.mjs). By AI agents, Wed Nov 11 2026. No macro, syntax, notation, axiom, sorry.
-/
import Derived.Test.YtlpcphndgjibpaaDoorRows
import GoSem.ClaimSeven
namespace Go.Proofs.YtlpcphndgjibpaaDoor
namespace Rows

/-- THE TIED CARD OF 'bucketlinelaw18.RecodeChooses'. -/
def recodeChoosesCard : Claim7 := { stood := { row := recodeChoosesRow, standIns := [], harness := (true, "98e521569ee5535b23ca614a9d80b92afe614a72c0c6b1c9ca3f10ef51f63091"), looks := false }, kinds := [], alts := [], laidByText := true, laidKinds := [.data], laidTests := true, laidLooks := .later }
def RecodeChoosesCardSaid : Prop := Claim7.holds Tryd.pinned (.plain (OpenSpec.ofChange recodeChoosesSpec)) recodeChoosesCard

/-- THE TIED CARD OF 'bucketlinelaw18.RecodeDegrees'. -/
def recodeDegreesCard : Claim7 := { stood := { row := recodeDegreesRow, standIns := [], harness := (true, "98e521569ee5535b23ca614a9d80b92afe614a72c0c6b1c9ca3f10ef51f63091"), looks := false }, kinds := [], alts := [], laidByText := true, laidKinds := [.data], laidTests := true, laidLooks := .later }
def RecodeDegreesCardSaid : Prop := Claim7.holds Tryd.pinned (.plain (OpenSpec.ofChange recodeDegreesSpec)) recodeDegreesCard

/-- THE TIED CARD OF 'bucketlinelaw18.RecodeMixes'. -/
def recodeMixesCard : Claim7 := { stood := { row := recodeMixesRow, standIns := [], harness := (true, "98e521569ee5535b23ca614a9d80b92afe614a72c0c6b1c9ca3f10ef51f63091"), looks := false }, kinds := [], alts := [], laidByText := true, laidKinds := [.data], laidTests := true, laidLooks := .later }
def RecodeMixesCardSaid : Prop := Claim7.holds Tryd.pinned (.plain (OpenSpec.ofChange recodeMixesSpec)) recodeMixesCard

/-- THE TIED CARD OF 'bucketlinelaw18.RecodeNearer'. -/
def recodeNearerCard : Claim7 := { stood := { row := recodeNearerRow, standIns := [], harness := (true, "98e521569ee5535b23ca614a9d80b92afe614a72c0c6b1c9ca3f10ef51f63091"), looks := false }, kinds := [], alts := [], laidByText := true, laidKinds := [.data], laidTests := true, laidLooks := .later }
def RecodeNearerCardSaid : Prop := Claim7.holds Tryd.pinned (.plain (OpenSpec.ofChange recodeNearerSpec)) recodeNearerCard

/-- THE TIED CARD OF 'bucketlinelaw03.EchelonBases'. -/
def echelonBasesCard : Claim7 := { stood := { row := echelonBasesRow, standIns := [], harness := (true, "98e521569ee5535b23ca614a9d80b92afe614a72c0c6b1c9ca3f10ef51f63091"), looks := false }, kinds := [], alts := [], laidByText := true, laidKinds := [.data], laidTests := true, laidLooks := .later }
def EchelonBasesCardSaid : Prop := Claim7.holds Tryd.pinned (.plain (OpenSpec.ofChange echelonBasesSpec)) echelonBasesCard

/-- THE TIED CARD OF 'bucketlinelaw03.EchelonOrder'. -/
def echelonOrderCard : Claim7 := { stood := { row := echelonOrderRow, standIns := [], harness := (true, "98e521569ee5535b23ca614a9d80b92afe614a72c0c6b1c9ca3f10ef51f63091"), looks := false }, kinds := [], alts := [], laidByText := true, laidKinds := [.data], laidTests := true, laidLooks := .later }
def EchelonOrderCardSaid : Prop := Claim7.holds Tryd.pinned (.plain (OpenSpec.ofChange echelonOrderSpec)) echelonOrderCard

/-- THE TIED CARD OF 'bucketlinelaw03.EchelonRises'. -/
def echelonRisesCard : Claim7 := { stood := { row := echelonRisesRow, standIns := [], harness := (true, "98e521569ee5535b23ca614a9d80b92afe614a72c0c6b1c9ca3f10ef51f63091"), looks := false }, kinds := [], alts := [], laidByText := true, laidKinds := [.data], laidTests := true, laidLooks := .later }
def EchelonRisesCardSaid : Prop := Claim7.holds Tryd.pinned (.plain (OpenSpec.ofChange echelonRisesSpec)) echelonRisesCard

/-- THE TIED CARD OF 'bucketlinelaw03.EchelonSpan'. -/
def echelonSpanCard : Claim7 := { stood := { row := echelonSpanRow, standIns := [], harness := (true, "98e521569ee5535b23ca614a9d80b92afe614a72c0c6b1c9ca3f10ef51f63091"), looks := false }, kinds := [], alts := [], laidByText := true, laidKinds := [.data], laidTests := true, laidLooks := .later }
def EchelonSpanCardSaid : Prop := Claim7.holds Tryd.pinned (.plain (OpenSpec.ofChange echelonSpanSpec)) echelonSpanCard

/-- THE SECOND FORM's CARD OF 'bucketlinelaw18.RecodeChooses'. -/
def recodeChoosesUptoCard : Claim7 := { stood := { row := recodeChoosesUptoRow, standIns := [], harness := (true, "98e521569ee5535b23ca614a9d80b92afe614a72c0c6b1c9ca3f10ef51f63091"), looks := false }, kinds := [], alts := [], laidByText := true, laidKinds := [.data], laidTests := true, laidLooks := .later }
def RecodeChoosesUptoCardSaid : Prop := Claim7.holds Tryd.pinned (.plain (OpenSpec.upto recodeChoosesSpec)) recodeChoosesUptoCard

/-- THE SECOND FORM's CARD OF 'bucketlinelaw18.RecodeDegrees'. -/
def recodeDegreesUptoCard : Claim7 := { stood := { row := recodeDegreesUptoRow, standIns := [], harness := (true, "98e521569ee5535b23ca614a9d80b92afe614a72c0c6b1c9ca3f10ef51f63091"), looks := false }, kinds := [], alts := [], laidByText := true, laidKinds := [.data], laidTests := true, laidLooks := .later }
def RecodeDegreesUptoCardSaid : Prop := Claim7.holds Tryd.pinned (.plain (OpenSpec.upto recodeDegreesSpec)) recodeDegreesUptoCard

/-- THE SECOND FORM's CARD OF 'bucketlinelaw18.RecodeMixes'. -/
def recodeMixesUptoCard : Claim7 := { stood := { row := recodeMixesUptoRow, standIns := [], harness := (true, "98e521569ee5535b23ca614a9d80b92afe614a72c0c6b1c9ca3f10ef51f63091"), looks := false }, kinds := [], alts := [], laidByText := true, laidKinds := [.data], laidTests := true, laidLooks := .later }
def RecodeMixesUptoCardSaid : Prop := Claim7.holds Tryd.pinned (.plain (OpenSpec.upto recodeMixesSpec)) recodeMixesUptoCard

/-- THE SECOND FORM's CARD OF 'bucketlinelaw18.RecodeNearer'. -/
def recodeNearerUptoCard : Claim7 := { stood := { row := recodeNearerUptoRow, standIns := [], harness := (true, "98e521569ee5535b23ca614a9d80b92afe614a72c0c6b1c9ca3f10ef51f63091"), looks := false }, kinds := [], alts := [], laidByText := true, laidKinds := [.data], laidTests := true, laidLooks := .later }
def RecodeNearerUptoCardSaid : Prop := Claim7.holds Tryd.pinned (.plain (OpenSpec.upto recodeNearerSpec)) recodeNearerUptoCard

/-- THE SECOND FORM's CARD OF 'bucketlinelaw03.EchelonBases'. -/
def echelonBasesUptoCard : Claim7 := { stood := { row := echelonBasesUptoRow, standIns := [], harness := (true, "98e521569ee5535b23ca614a9d80b92afe614a72c0c6b1c9ca3f10ef51f63091"), looks := false }, kinds := [], alts := [], laidByText := true, laidKinds := [.data], laidTests := true, laidLooks := .later }
def EchelonBasesUptoCardSaid : Prop := Claim7.holds Tryd.pinned (.plain (OpenSpec.upto echelonBasesSpec)) echelonBasesUptoCard

/-- THE SECOND FORM's CARD OF 'bucketlinelaw03.EchelonOrder'. -/
def echelonOrderUptoCard : Claim7 := { stood := { row := echelonOrderUptoRow, standIns := [], harness := (true, "98e521569ee5535b23ca614a9d80b92afe614a72c0c6b1c9ca3f10ef51f63091"), looks := false }, kinds := [], alts := [], laidByText := true, laidKinds := [.data], laidTests := true, laidLooks := .later }
def EchelonOrderUptoCardSaid : Prop := Claim7.holds Tryd.pinned (.plain (OpenSpec.upto echelonOrderSpec)) echelonOrderUptoCard

/-- THE SECOND FORM's CARD OF 'bucketlinelaw03.EchelonRises'. -/
def echelonRisesUptoCard : Claim7 := { stood := { row := echelonRisesUptoRow, standIns := [], harness := (true, "98e521569ee5535b23ca614a9d80b92afe614a72c0c6b1c9ca3f10ef51f63091"), looks := false }, kinds := [], alts := [], laidByText := true, laidKinds := [.data], laidTests := true, laidLooks := .later }
def EchelonRisesUptoCardSaid : Prop := Claim7.holds Tryd.pinned (.plain (OpenSpec.upto echelonRisesSpec)) echelonRisesUptoCard

/-- THE SECOND FORM's CARD OF 'bucketlinelaw03.EchelonSpan'. -/
def echelonSpanUptoCard : Claim7 := { stood := { row := echelonSpanUptoRow, standIns := [], harness := (true, "98e521569ee5535b23ca614a9d80b92afe614a72c0c6b1c9ca3f10ef51f63091"), looks := false }, kinds := [], alts := [], laidByText := true, laidKinds := [.data], laidTests := true, laidLooks := .later }
def EchelonSpanUptoCardSaid : Prop := Claim7.holds Tryd.pinned (.plain (OpenSpec.upto echelonSpanSpec)) echelonSpanUptoCard
end Rows
end Go.Proofs.YtlpcphndgjibpaaDoor
