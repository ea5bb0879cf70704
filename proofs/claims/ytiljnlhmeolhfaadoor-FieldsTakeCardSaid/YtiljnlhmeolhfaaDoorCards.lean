/-
  DERIVED. GIVEN WITH THE SEED: THE CARDS: each row of YtiljnlhmeolhfaaDoorRows.lean that lists a variable, with what it lists TIED to the program's text (the seventh form; the later family's looks); each row that meets fmt, with fmt's text TOLD by the authors' own Lean function (tested against real Go, not proved from fmt's source: count such statements apart). THE CARD IS WHAT COUNTS. Prove the row's statement (the work); the ties are given (YtiljnlhmeolhfaaDoorTie.lean); close each card by the builder's one call (the guide's Derived/Test/ToyasCard.lean, 'card_holds'). Laid BY PROGRAM, IN A SANDBOX (cutbox-door.mjs). By AI agents, Wed Nov 11 2026. No macro, syntax, notation, axiom, sorry.
-/
import Derived.Test.YtiljnlhmeolhfaaDoorRows
import GoSem.ClaimSeven
namespace Go.Proofs.YtiljnlhmeolhfaaDoor
namespace Rows

/-- THE TIED CARD OF 'fuseelaw24.QuantTells'. -/
def quantTellsCard : Claim7 := { stood := { row := quantTellsRow, standIns := [], harness := (true, "72ddcade57639214f2481abb728eb8747a66316ef3fcd99d1b17f06f30b8b549"), looks := true }, kinds := [], alts := [], laidByText := true, laidKinds := [.handle], laidTests := true, laidLooks := .later }
def QuantTellsCardSaid : Prop := Claim7.holds Tryd.pinned (.plain (OpenSpec.ofChange quantTellsSpec)) quantTellsCard

/-- THE TIED CARD OF 'fuseelaw24.QuantHolds'. -/
def quantHoldsCard : Claim7 := { stood := { row := quantHoldsRow, standIns := [], harness := (true, "72ddcade57639214f2481abb728eb8747a66316ef3fcd99d1b17f06f30b8b549"), looks := true }, kinds := [], alts := [], laidByText := true, laidKinds := [.handle], laidTests := true, laidLooks := .later }
def QuantHoldsCardSaid : Prop := Claim7.holds Tryd.pinned (.plain (OpenSpec.ofChange quantHoldsSpec)) quantHoldsCard

/-- THE TIED CARD OF 'fuseelaw05.FieldsPut'. -/
def fieldsPutCard : Claim7 := { stood := { row := fieldsPutRow, standIns := [], harness := (true, "72ddcade57639214f2481abb728eb8747a66316ef3fcd99d1b17f06f30b8b549"), looks := true }, kinds := [], alts := [], laidByText := true, laidKinds := [.handle], laidTests := true, laidLooks := .later }
def FieldsPutCardSaid : Prop := Claim7.holds Tryd.pinned (.plain (OpenSpec.ofChange fieldsPutSpec)) fieldsPutCard

/-- THE TIED CARD OF 'fuseelaw05.FieldsBack'. -/
def fieldsBackCard : Claim7 := { stood := { row := fieldsBackRow, standIns := [], harness := (true, "72ddcade57639214f2481abb728eb8747a66316ef3fcd99d1b17f06f30b8b549"), looks := true }, kinds := [], alts := [], laidByText := true, laidKinds := [.handle], laidTests := true, laidLooks := .later }
def FieldsBackCardSaid : Prop := Claim7.holds Tryd.pinned (.plain (OpenSpec.ofChange fieldsBackSpec)) fieldsBackCard

/-- THE TIED CARD OF 'fuseelaw05.FieldsTake'. -/
def fieldsTakeCard : Claim7 := { stood := { row := fieldsTakeRow, standIns := [], harness := (true, "72ddcade57639214f2481abb728eb8747a66316ef3fcd99d1b17f06f30b8b549"), looks := true }, kinds := [], alts := [], laidByText := true, laidKinds := [.handle], laidTests := true, laidLooks := .later }
def FieldsTakeCardSaid : Prop := Claim7.holds Tryd.pinned (.plain (OpenSpec.ofChange fieldsTakeSpec)) fieldsTakeCard

/-- THE TIED CARD OF 'fuseelaw01.NumSums'. -/
def numSumsCard : Claim7 := { stood := { row := numSumsRow, standIns := [], harness := (true, "72ddcade57639214f2481abb728eb8747a66316ef3fcd99d1b17f06f30b8b549"), looks := true }, kinds := [], alts := [], laidByText := true, laidKinds := [.handle], laidTests := true, laidLooks := .later }
def NumSumsCardSaid : Prop := Claim7.holds Tryd.pinned (.plain (OpenSpec.ofChange numSumsSpec)) numSumsCard

/-- THE TIED CARD OF 'fuseelaw01.NumParts'. -/
def numPartsCard : Claim7 := { stood := { row := numPartsRow, standIns := [], harness := (true, "72ddcade57639214f2481abb728eb8747a66316ef3fcd99d1b17f06f30b8b549"), looks := true }, kinds := [], alts := [], laidByText := true, laidKinds := [.handle], laidTests := true, laidLooks := .later }
def NumPartsCardSaid : Prop := Claim7.holds Tryd.pinned (.plain (OpenSpec.ofChange numPartsSpec)) numPartsCard

/-- THE TIED CARD OF 'fuseelaw01.NumBack'. -/
def numBackCard : Claim7 := { stood := { row := numBackRow, standIns := [], harness := (true, "72ddcade57639214f2481abb728eb8747a66316ef3fcd99d1b17f06f30b8b549"), looks := true }, kinds := [], alts := [], laidByText := true, laidKinds := [.handle], laidTests := true, laidLooks := .later }
def NumBackCardSaid : Prop := Claim7.holds Tryd.pinned (.plain (OpenSpec.ofChange numBackSpec)) numBackCard

/-- THE SECOND FORM's CARD OF 'fuseelaw24.QuantTells'. -/
def quantTellsUptoCard : Claim7 := { stood := { row := quantTellsUptoRow, standIns := [], harness := (true, "72ddcade57639214f2481abb728eb8747a66316ef3fcd99d1b17f06f30b8b549"), looks := true }, kinds := [], alts := [], laidByText := true, laidKinds := [.handle], laidTests := true, laidLooks := .later }
def QuantTellsUptoCardSaid : Prop := Claim7.holds Tryd.pinned (.plain (OpenSpec.upto quantTellsSpec)) quantTellsUptoCard

/-- THE SECOND FORM's CARD OF 'fuseelaw24.QuantHolds'. -/
def quantHoldsUptoCard : Claim7 := { stood := { row := quantHoldsUptoRow, standIns := [], harness := (true, "72ddcade57639214f2481abb728eb8747a66316ef3fcd99d1b17f06f30b8b549"), looks := true }, kinds := [], alts := [], laidByText := true, laidKinds := [.handle], laidTests := true, laidLooks := .later }
def QuantHoldsUptoCardSaid : Prop := Claim7.holds Tryd.pinned (.plain (OpenSpec.upto quantHoldsSpec)) quantHoldsUptoCard

/-- THE SECOND FORM's CARD OF 'fuseelaw05.FieldsPut'. -/
def fieldsPutUptoCard : Claim7 := { stood := { row := fieldsPutUptoRow, standIns := [], harness := (true, "72ddcade57639214f2481abb728eb8747a66316ef3fcd99d1b17f06f30b8b549"), looks := true }, kinds := [], alts := [], laidByText := true, laidKinds := [.handle], laidTests := true, laidLooks := .later }
def FieldsPutUptoCardSaid : Prop := Claim7.holds Tryd.pinned (.plain (OpenSpec.upto fieldsPutSpec)) fieldsPutUptoCard

/-- THE SECOND FORM's CARD OF 'fuseelaw05.FieldsBack'. -/
def fieldsBackUptoCard : Claim7 := { stood := { row := fieldsBackUptoRow, standIns := [], harness := (true, "72ddcade57639214f2481abb728eb8747a66316ef3fcd99d1b17f06f30b8b549"), looks := true }, kinds := [], alts := [], laidByText := true, laidKinds := [.handle], laidTests := true, laidLooks := .later }
def FieldsBackUptoCardSaid : Prop := Claim7.holds Tryd.pinned (.plain (OpenSpec.upto fieldsBackSpec)) fieldsBackUptoCard

/-- THE SECOND FORM's CARD OF 'fuseelaw05.FieldsTake'. -/
def fieldsTakeUptoCard : Claim7 := { stood := { row := fieldsTakeUptoRow, standIns := [], harness := (true, "72ddcade57639214f2481abb728eb8747a66316ef3fcd99d1b17f06f30b8b549"), looks := true }, kinds := [], alts := [], laidByText := true, laidKinds := [.handle], laidTests := true, laidLooks := .later }
def FieldsTakeUptoCardSaid : Prop := Claim7.holds Tryd.pinned (.plain (OpenSpec.upto fieldsTakeSpec)) fieldsTakeUptoCard

/-- THE SECOND FORM's CARD OF 'fuseelaw01.NumSums'. -/
def numSumsUptoCard : Claim7 := { stood := { row := numSumsUptoRow, standIns := [], harness := (true, "72ddcade57639214f2481abb728eb8747a66316ef3fcd99d1b17f06f30b8b549"), looks := true }, kinds := [], alts := [], laidByText := true, laidKinds := [.handle], laidTests := true, laidLooks := .later }
def NumSumsUptoCardSaid : Prop := Claim7.holds Tryd.pinned (.plain (OpenSpec.upto numSumsSpec)) numSumsUptoCard

/-- THE SECOND FORM's CARD OF 'fuseelaw01.NumParts'. -/
def numPartsUptoCard : Claim7 := { stood := { row := numPartsUptoRow, standIns := [], harness := (true, "72ddcade57639214f2481abb728eb8747a66316ef3fcd99d1b17f06f30b8b549"), looks := true }, kinds := [], alts := [], laidByText := true, laidKinds := [.handle], laidTests := true, laidLooks := .later }
def NumPartsUptoCardSaid : Prop := Claim7.holds Tryd.pinned (.plain (OpenSpec.upto numPartsSpec)) numPartsUptoCard

/-- THE SECOND FORM's CARD OF 'fuseelaw01.NumBack'. -/
def numBackUptoCard : Claim7 := { stood := { row := numBackUptoRow, standIns := [], harness := (true, "72ddcade57639214f2481abb728eb8747a66316ef3fcd99d1b17f06f30b8b549"), looks := true }, kinds := [], alts := [], laidByText := true, laidKinds := [.handle], laidTests := true, laidLooks := .later }
def NumBackUptoCardSaid : Prop := Claim7.holds Tryd.pinned (.plain (OpenSpec.upto numBackSpec)) numBackUptoCard
end Rows
end Go.Proofs.YtiljnlhmeolhfaaDoor
