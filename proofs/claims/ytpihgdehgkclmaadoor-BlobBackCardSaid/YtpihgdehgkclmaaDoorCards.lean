/-
  DERIVED. GIVEN WITH THE SEED: THE CARDS: each row of YtpihgdehgkclmaaDoorRows.lean that lists a variable, with what it lists TIED to the program's text (the seventh form; the later family's looks); each row that meets fmt, with fmt's text TOLD by the authors' own Lean function (tested against real Go, not proved from fmt's source: count such statements apart). THE CARD IS WHAT COUNTS. Prove the row's statement (the work); the ties are given (YtpihgdehgkclmaaDoorTie.lean); close each card by the builder's one call (the guide's Derived/Test/ToyasCard.lean, 'card_holds'). Laid BY PROGRAM, IN A SANDBOX (cutbox-door.mjs). By AI agents, Wed Nov 11 2026. No macro, syntax, notation, axiom, sorry.
-/
import Derived.Test.YtpihgdehgkclmaaDoorRows
import GoSem.ClaimSeven
namespace Go.Proofs.YtpihgdehgkclmaaDoor
namespace Rows

/-- THE TIED CARD OF 'fuseelaw25.FuzzTells'. -/
def fuzzTellsCard : Claim7 := { stood := { row := fuzzTellsRow, standIns := [], harness := (true, "0d9505b19dabbb38109e94d0853cd1cd867fd8b6d12e6fb89846d21ef838da8f"), looks := true }, kinds := [], alts := [], laidByText := true, laidKinds := [.handle], laidTests := true, laidLooks := .later }
def FuzzTellsCardSaid : Prop := Claim7.holds Tryd.pinned (.plain (OpenSpec.ofChange fuzzTellsSpec)) fuzzTellsCard

/-- THE TIED CARD OF 'fuseelaw25.FuzzHolds'. -/
def fuzzHoldsCard : Claim7 := { stood := { row := fuzzHoldsRow, standIns := [], harness := (true, "0d9505b19dabbb38109e94d0853cd1cd867fd8b6d12e6fb89846d21ef838da8f"), looks := true }, kinds := [], alts := [], laidByText := true, laidKinds := [.handle], laidTests := true, laidLooks := .later }
def FuzzHoldsCardSaid : Prop := Claim7.holds Tryd.pinned (.plain (OpenSpec.ofChange fuzzHoldsSpec)) fuzzHoldsCard

/-- THE TIED CARD OF 'fuseelaw20.PublishSteps'. -/
def publishStepsCard : Claim7 := { stood := { row := publishStepsRow, standIns := [], harness := (true, "0d9505b19dabbb38109e94d0853cd1cd867fd8b6d12e6fb89846d21ef838da8f"), looks := true }, kinds := [], alts := [], laidByText := true, laidKinds := [.handle], laidTests := true, laidLooks := .later }
def PublishStepsCardSaid : Prop := Claim7.holds Tryd.pinned (.plain (OpenSpec.ofChange publishStepsSpec)) publishStepsCard

/-- THE TIED CARD OF 'fuseelaw06.BlobForms'. -/
def blobFormsCard : Claim7 := { stood := { row := blobFormsRow, standIns := [], harness := (true, "0d9505b19dabbb38109e94d0853cd1cd867fd8b6d12e6fb89846d21ef838da8f"), looks := true }, kinds := [], alts := [], laidByText := true, laidKinds := [.handle], laidTests := true, laidLooks := .later }
def BlobFormsCardSaid : Prop := Claim7.holds Tryd.pinned (.plain (OpenSpec.ofChange blobFormsSpec)) blobFormsCard

/-- THE TIED CARD OF 'fuseelaw06.BlobBack'. -/
def blobBackCard : Claim7 := { stood := { row := blobBackRow, standIns := [], harness := (true, "0d9505b19dabbb38109e94d0853cd1cd867fd8b6d12e6fb89846d21ef838da8f"), looks := true }, kinds := [], alts := [], laidByText := true, laidKinds := [.handle], laidTests := true, laidLooks := .later }
def BlobBackCardSaid : Prop := Claim7.holds Tryd.pinned (.plain (OpenSpec.ofChange blobBackSpec)) blobBackCard

/-- THE TIED CARD OF 'fuseelaw21.ReaderCalm'. -/
def readerCalmCard : Claim7 := { stood := { row := readerCalmRow, standIns := [], harness := (true, "0d9505b19dabbb38109e94d0853cd1cd867fd8b6d12e6fb89846d21ef838da8f"), looks := true }, kinds := [], alts := [], laidByText := true, laidKinds := [.handle], laidTests := true, laidLooks := .later }
def ReaderCalmCardSaid : Prop := Claim7.holds Tryd.pinned (.plain (OpenSpec.ofChange readerCalmSpec)) readerCalmCard

/-- THE TIED CARD OF 'fuseelaw20.PublishWrites'. -/
def publishWritesCard : Claim7 := { stood := { row := publishWritesRow, standIns := [], harness := (true, "0d9505b19dabbb38109e94d0853cd1cd867fd8b6d12e6fb89846d21ef838da8f"), looks := true }, kinds := [], alts := [], laidByText := true, laidKinds := [.handle], laidTests := true, laidLooks := .later }
def PublishWritesCardSaid : Prop := Claim7.holds Tryd.pinned (.plain (OpenSpec.ofChange publishWritesSpec)) publishWritesCard

/-- THE TIED CARD OF 'fuseelaw17.DriftGrows'. -/
def driftGrowsCard : Claim7 := { stood := { row := driftGrowsRow, standIns := [], harness := (true, "0d9505b19dabbb38109e94d0853cd1cd867fd8b6d12e6fb89846d21ef838da8f"), looks := true }, kinds := [], alts := [], laidByText := true, laidKinds := [.handle], laidTests := true, laidLooks := .later }
def DriftGrowsCardSaid : Prop := Claim7.holds Tryd.pinned (.plain (OpenSpec.ofChange driftGrowsSpec)) driftGrowsCard

/-- THE TIED CARD OF 'fuseelaw17.DriftParts'. -/
def driftPartsCard : Claim7 := { stood := { row := driftPartsRow, standIns := [], harness := (true, "0d9505b19dabbb38109e94d0853cd1cd867fd8b6d12e6fb89846d21ef838da8f"), looks := true }, kinds := [], alts := [], laidByText := true, laidKinds := [.handle], laidTests := true, laidLooks := .later }
def DriftPartsCardSaid : Prop := Claim7.holds Tryd.pinned (.plain (OpenSpec.ofChange driftPartsSpec)) driftPartsCard

/-- THE TIED CARD OF 'fuseelaw21.ReaderWhole'. -/
def readerWholeCard : Claim7 := { stood := { row := readerWholeRow, standIns := [], harness := (true, "0d9505b19dabbb38109e94d0853cd1cd867fd8b6d12e6fb89846d21ef838da8f"), looks := true }, kinds := [], alts := [], laidByText := true, laidKinds := [.handle], laidTests := true, laidLooks := .later }
def ReaderWholeCardSaid : Prop := Claim7.holds Tryd.pinned (.plain (OpenSpec.ofChange readerWholeSpec)) readerWholeCard

/-- THE TIED CARD OF 'fuseelaw14.SampleTells'. -/
def sampleTellsCard : Claim7 := { stood := { row := sampleTellsRow, standIns := [], harness := (true, "0d9505b19dabbb38109e94d0853cd1cd867fd8b6d12e6fb89846d21ef838da8f"), looks := true }, kinds := [], alts := [], laidByText := true, laidKinds := [.handle], laidTests := true, laidLooks := .later }
def SampleTellsCardSaid : Prop := Claim7.holds Tryd.pinned (.plain (OpenSpec.ofChange sampleTellsSpec)) sampleTellsCard

/-- THE TIED CARD OF 'fuseelaw14.SampleHolds'. -/
def sampleHoldsCard : Claim7 := { stood := { row := sampleHoldsRow, standIns := [], harness := (true, "0d9505b19dabbb38109e94d0853cd1cd867fd8b6d12e6fb89846d21ef838da8f"), looks := true }, kinds := [], alts := [], laidByText := true, laidKinds := [.handle], laidTests := true, laidLooks := .later }
def SampleHoldsCardSaid : Prop := Claim7.holds Tryd.pinned (.plain (OpenSpec.ofChange sampleHoldsSpec)) sampleHoldsCard

/-- THE SECOND FORM's CARD OF 'fuseelaw25.FuzzTells'. -/
def fuzzTellsUptoCard : Claim7 := { stood := { row := fuzzTellsUptoRow, standIns := [], harness := (true, "0d9505b19dabbb38109e94d0853cd1cd867fd8b6d12e6fb89846d21ef838da8f"), looks := true }, kinds := [], alts := [], laidByText := true, laidKinds := [.handle], laidTests := true, laidLooks := .later }
def FuzzTellsUptoCardSaid : Prop := Claim7.holds Tryd.pinned (.plain (OpenSpec.upto fuzzTellsSpec)) fuzzTellsUptoCard

/-- THE SECOND FORM's CARD OF 'fuseelaw25.FuzzHolds'. -/
def fuzzHoldsUptoCard : Claim7 := { stood := { row := fuzzHoldsUptoRow, standIns := [], harness := (true, "0d9505b19dabbb38109e94d0853cd1cd867fd8b6d12e6fb89846d21ef838da8f"), looks := true }, kinds := [], alts := [], laidByText := true, laidKinds := [.handle], laidTests := true, laidLooks := .later }
def FuzzHoldsUptoCardSaid : Prop := Claim7.holds Tryd.pinned (.plain (OpenSpec.upto fuzzHoldsSpec)) fuzzHoldsUptoCard

/-- THE SECOND FORM's CARD OF 'fuseelaw20.PublishSteps'. -/
def publishStepsUptoCard : Claim7 := { stood := { row := publishStepsUptoRow, standIns := [], harness := (true, "0d9505b19dabbb38109e94d0853cd1cd867fd8b6d12e6fb89846d21ef838da8f"), looks := true }, kinds := [], alts := [], laidByText := true, laidKinds := [.handle], laidTests := true, laidLooks := .later }
def PublishStepsUptoCardSaid : Prop := Claim7.holds Tryd.pinned (.plain (OpenSpec.upto publishStepsSpec)) publishStepsUptoCard

/-- THE SECOND FORM's CARD OF 'fuseelaw06.BlobForms'. -/
def blobFormsUptoCard : Claim7 := { stood := { row := blobFormsUptoRow, standIns := [], harness := (true, "0d9505b19dabbb38109e94d0853cd1cd867fd8b6d12e6fb89846d21ef838da8f"), looks := true }, kinds := [], alts := [], laidByText := true, laidKinds := [.handle], laidTests := true, laidLooks := .later }
def BlobFormsUptoCardSaid : Prop := Claim7.holds Tryd.pinned (.plain (OpenSpec.upto blobFormsSpec)) blobFormsUptoCard

/-- THE SECOND FORM's CARD OF 'fuseelaw06.BlobBack'. -/
def blobBackUptoCard : Claim7 := { stood := { row := blobBackUptoRow, standIns := [], harness := (true, "0d9505b19dabbb38109e94d0853cd1cd867fd8b6d12e6fb89846d21ef838da8f"), looks := true }, kinds := [], alts := [], laidByText := true, laidKinds := [.handle], laidTests := true, laidLooks := .later }
def BlobBackUptoCardSaid : Prop := Claim7.holds Tryd.pinned (.plain (OpenSpec.upto blobBackSpec)) blobBackUptoCard

/-- THE SECOND FORM's CARD OF 'fuseelaw21.ReaderCalm'. -/
def readerCalmUptoCard : Claim7 := { stood := { row := readerCalmUptoRow, standIns := [], harness := (true, "0d9505b19dabbb38109e94d0853cd1cd867fd8b6d12e6fb89846d21ef838da8f"), looks := true }, kinds := [], alts := [], laidByText := true, laidKinds := [.handle], laidTests := true, laidLooks := .later }
def ReaderCalmUptoCardSaid : Prop := Claim7.holds Tryd.pinned (.plain (OpenSpec.upto readerCalmSpec)) readerCalmUptoCard

/-- THE SECOND FORM's CARD OF 'fuseelaw20.PublishWrites'. -/
def publishWritesUptoCard : Claim7 := { stood := { row := publishWritesUptoRow, standIns := [], harness := (true, "0d9505b19dabbb38109e94d0853cd1cd867fd8b6d12e6fb89846d21ef838da8f"), looks := true }, kinds := [], alts := [], laidByText := true, laidKinds := [.handle], laidTests := true, laidLooks := .later }
def PublishWritesUptoCardSaid : Prop := Claim7.holds Tryd.pinned (.plain (OpenSpec.upto publishWritesSpec)) publishWritesUptoCard

/-- THE SECOND FORM's CARD OF 'fuseelaw17.DriftGrows'. -/
def driftGrowsUptoCard : Claim7 := { stood := { row := driftGrowsUptoRow, standIns := [], harness := (true, "0d9505b19dabbb38109e94d0853cd1cd867fd8b6d12e6fb89846d21ef838da8f"), looks := true }, kinds := [], alts := [], laidByText := true, laidKinds := [.handle], laidTests := true, laidLooks := .later }
def DriftGrowsUptoCardSaid : Prop := Claim7.holds Tryd.pinned (.plain (OpenSpec.upto driftGrowsSpec)) driftGrowsUptoCard

/-- THE SECOND FORM's CARD OF 'fuseelaw17.DriftParts'. -/
def driftPartsUptoCard : Claim7 := { stood := { row := driftPartsUptoRow, standIns := [], harness := (true, "0d9505b19dabbb38109e94d0853cd1cd867fd8b6d12e6fb89846d21ef838da8f"), looks := true }, kinds := [], alts := [], laidByText := true, laidKinds := [.handle], laidTests := true, laidLooks := .later }
def DriftPartsUptoCardSaid : Prop := Claim7.holds Tryd.pinned (.plain (OpenSpec.upto driftPartsSpec)) driftPartsUptoCard

/-- THE SECOND FORM's CARD OF 'fuseelaw21.ReaderWhole'. -/
def readerWholeUptoCard : Claim7 := { stood := { row := readerWholeUptoRow, standIns := [], harness := (true, "0d9505b19dabbb38109e94d0853cd1cd867fd8b6d12e6fb89846d21ef838da8f"), looks := true }, kinds := [], alts := [], laidByText := true, laidKinds := [.handle], laidTests := true, laidLooks := .later }
def ReaderWholeUptoCardSaid : Prop := Claim7.holds Tryd.pinned (.plain (OpenSpec.upto readerWholeSpec)) readerWholeUptoCard

/-- THE SECOND FORM's CARD OF 'fuseelaw14.SampleTells'. -/
def sampleTellsUptoCard : Claim7 := { stood := { row := sampleTellsUptoRow, standIns := [], harness := (true, "0d9505b19dabbb38109e94d0853cd1cd867fd8b6d12e6fb89846d21ef838da8f"), looks := true }, kinds := [], alts := [], laidByText := true, laidKinds := [.handle], laidTests := true, laidLooks := .later }
def SampleTellsUptoCardSaid : Prop := Claim7.holds Tryd.pinned (.plain (OpenSpec.upto sampleTellsSpec)) sampleTellsUptoCard

/-- THE SECOND FORM's CARD OF 'fuseelaw14.SampleHolds'. -/
def sampleHoldsUptoCard : Claim7 := { stood := { row := sampleHoldsUptoRow, standIns := [], harness := (true, "0d9505b19dabbb38109e94d0853cd1cd867fd8b6d12e6fb89846d21ef838da8f"), looks := true }, kinds := [], alts := [], laidByText := true, laidKinds := [.handle], laidTests := true, laidLooks := .later }
def SampleHoldsUptoCardSaid : Prop := Claim7.holds Tryd.pinned (.plain (OpenSpec.upto sampleHoldsSpec)) sampleHoldsUptoCard
end Rows
end Go.Proofs.YtpihgdehgkclmaaDoor
