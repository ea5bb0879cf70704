/-
  DERIVED. GIVEN WITH THE SEED: THE CARDS: each row of YtnlaiiophongmaaDoorRows.lean that lists a variable, with what it lists TIED to the program's text (the seventh form; the later family's looks); each row that meets fmt, with fmt's text TOLD by the authors' own Lean function (tested against real Go, not proved from fmt's source: count such statements apart). THE CARD IS WHAT COUNTS. Prove the row's statement (the work); the ties are given (YtnlaiiophongmaaDoorTie.lean); close each card by the builder's one call (the guide's Derived/Test/ToyasCard.lean, 'card_holds'). Laid BY PROGRAM, IN A SANDBOX (cutbox-door.mjs). By AI agents, Wed Nov 11 2026. No macro, syntax, notation, axiom, sorry.
-/
import Derived.Test.YtnlaiiophongmaaDoorRows
import GoSem.ClaimSeven
namespace Go.Proofs.YtnlaiiophongmaaDoor
namespace Rows

/-- THE TIED CARD OF 'fuseelaw35.SlotTells'. -/
def slotTellsCard : Claim7 := { stood := { row := slotTellsRow, standIns := [], harness := (true, "248780f88ee668e503cff2a8c03b63a99e9cc024afd13bc23225b5b84d5ada31"), looks := true }, kinds := [], alts := [], laidByText := true, laidKinds := [.handle], laidTests := true, laidLooks := .later }
def SlotTellsCardSaid : Prop := Claim7.holds Tryd.pinned (.plain (OpenSpec.ofChange slotTellsSpec)) slotTellsCard

/-- THE TIED CARD OF 'fuseelaw35.SlotRound'. -/
def slotRoundCard : Claim7 := { stood := { row := slotRoundRow, standIns := [], harness := (true, "248780f88ee668e503cff2a8c03b63a99e9cc024afd13bc23225b5b84d5ada31"), looks := true }, kinds := [], alts := [], laidByText := true, laidKinds := [.handle], laidTests := true, laidLooks := .later }
def SlotRoundCardSaid : Prop := Claim7.holds Tryd.pinned (.plain (OpenSpec.ofChange slotRoundSpec)) slotRoundCard

/-- THE TIED CARD OF 'fuseelaw32.NetSteps'. -/
def netStepsCard : Claim7 := { stood := { row := netStepsRow, standIns := [], harness := (true, "248780f88ee668e503cff2a8c03b63a99e9cc024afd13bc23225b5b84d5ada31"), looks := true }, kinds := [], alts := [], laidByText := true, laidKinds := [.handle], laidTests := true, laidLooks := .later }
def NetStepsCardSaid : Prop := Claim7.holds Tryd.pinned (.plain (OpenSpec.ofChange netStepsSpec)) netStepsCard

/-- THE TIED CARD OF 'fuseelaw32.NetCounts'. -/
def netCountsCard : Claim7 := { stood := { row := netCountsRow, standIns := [], harness := (true, "248780f88ee668e503cff2a8c03b63a99e9cc024afd13bc23225b5b84d5ada31"), looks := true }, kinds := [], alts := [], laidByText := true, laidKinds := [.handle], laidTests := true, laidLooks := .later }
def NetCountsCardSaid : Prop := Claim7.holds Tryd.pinned (.plain (OpenSpec.ofChange netCountsSpec)) netCountsCard

/-- THE TIED CARD OF 'fuseelaw26.FloorTells'. -/
def floorTellsCard : Claim7 := { stood := { row := floorTellsRow, standIns := [], harness := (true, "248780f88ee668e503cff2a8c03b63a99e9cc024afd13bc23225b5b84d5ada31"), looks := true }, kinds := [], alts := [], laidByText := true, laidKinds := [.handle], laidTests := true, laidLooks := .later }
def FloorTellsCardSaid : Prop := Claim7.holds Tryd.pinned (.plain (OpenSpec.ofChange floorTellsSpec)) floorTellsCard

/-- THE TIED CARD OF 'fuseelaw26.FloorHolds'. -/
def floorHoldsCard : Claim7 := { stood := { row := floorHoldsRow, standIns := [], harness := (true, "248780f88ee668e503cff2a8c03b63a99e9cc024afd13bc23225b5b84d5ada31"), looks := true }, kinds := [], alts := [], laidByText := true, laidKinds := [.handle], laidTests := true, laidLooks := .later }
def FloorHoldsCardSaid : Prop := Claim7.holds Tryd.pinned (.plain (OpenSpec.ofChange floorHoldsSpec)) floorHoldsCard

/-- THE TIED CARD OF 'fuseelaw09.LeapDays'. -/
def leapDaysCard : Claim7 := { stood := { row := leapDaysRow, standIns := [], harness := (true, "248780f88ee668e503cff2a8c03b63a99e9cc024afd13bc23225b5b84d5ada31"), looks := true }, kinds := [], alts := [], laidByText := true, laidKinds := [.handle], laidTests := true, laidLooks := .later }
def LeapDaysCardSaid : Prop := Claim7.holds Tryd.pinned (.plain (OpenSpec.ofChange leapDaysSpec)) leapDaysCard

/-- THE TIED CARD OF 'fuseelaw09.LeapMore'. -/
def leapMoreCard : Claim7 := { stood := { row := leapMoreRow, standIns := [], harness := (true, "248780f88ee668e503cff2a8c03b63a99e9cc024afd13bc23225b5b84d5ada31"), looks := true }, kinds := [], alts := [], laidByText := true, laidKinds := [.handle], laidTests := true, laidLooks := .later }
def LeapMoreCardSaid : Prop := Claim7.holds Tryd.pinned (.plain (OpenSpec.ofChange leapMoreSpec)) leapMoreCard

/-- THE TIED CARD OF 'fuseelaw09.LeapMoments'. -/
def leapMomentsCard : Claim7 := { stood := { row := leapMomentsRow, standIns := [], harness := (true, "248780f88ee668e503cff2a8c03b63a99e9cc024afd13bc23225b5b84d5ada31"), looks := true }, kinds := [], alts := [], laidByText := true, laidKinds := [.handle], laidTests := true, laidLooks := .later }
def LeapMomentsCardSaid : Prop := Claim7.holds Tryd.pinned (.plain (OpenSpec.ofChange leapMomentsSpec)) leapMomentsCard

/-- THE TIED CARD OF 'fuseelaw09.LeapBack'. -/
def leapBackCard : Claim7 := { stood := { row := leapBackRow, standIns := [], harness := (true, "248780f88ee668e503cff2a8c03b63a99e9cc024afd13bc23225b5b84d5ada31"), looks := true }, kinds := [], alts := [], laidByText := true, laidKinds := [.handle], laidTests := true, laidLooks := .later }
def LeapBackCardSaid : Prop := Claim7.holds Tryd.pinned (.plain (OpenSpec.ofChange leapBackSpec)) leapBackCard

/-- THE TIED CARD OF 'fuseelaw09.LeapForms'. -/
def leapFormsCard : Claim7 := { stood := { row := leapFormsRow, standIns := [], harness := (true, "248780f88ee668e503cff2a8c03b63a99e9cc024afd13bc23225b5b84d5ada31"), looks := true }, kinds := [], alts := [], laidByText := true, laidKinds := [.handle], laidTests := true, laidLooks := .later }
def LeapFormsCardSaid : Prop := Claim7.holds Tryd.pinned (.plain (OpenSpec.ofChange leapFormsSpec)) leapFormsCard

/-- THE SECOND FORM's CARD OF 'fuseelaw35.SlotTells'. -/
def slotTellsUptoCard : Claim7 := { stood := { row := slotTellsUptoRow, standIns := [], harness := (true, "248780f88ee668e503cff2a8c03b63a99e9cc024afd13bc23225b5b84d5ada31"), looks := true }, kinds := [], alts := [], laidByText := true, laidKinds := [.handle], laidTests := true, laidLooks := .later }
def SlotTellsUptoCardSaid : Prop := Claim7.holds Tryd.pinned (.plain (OpenSpec.upto slotTellsSpec)) slotTellsUptoCard

/-- THE SECOND FORM's CARD OF 'fuseelaw35.SlotRound'. -/
def slotRoundUptoCard : Claim7 := { stood := { row := slotRoundUptoRow, standIns := [], harness := (true, "248780f88ee668e503cff2a8c03b63a99e9cc024afd13bc23225b5b84d5ada31"), looks := true }, kinds := [], alts := [], laidByText := true, laidKinds := [.handle], laidTests := true, laidLooks := .later }
def SlotRoundUptoCardSaid : Prop := Claim7.holds Tryd.pinned (.plain (OpenSpec.upto slotRoundSpec)) slotRoundUptoCard

/-- THE SECOND FORM's CARD OF 'fuseelaw32.NetSteps'. -/
def netStepsUptoCard : Claim7 := { stood := { row := netStepsUptoRow, standIns := [], harness := (true, "248780f88ee668e503cff2a8c03b63a99e9cc024afd13bc23225b5b84d5ada31"), looks := true }, kinds := [], alts := [], laidByText := true, laidKinds := [.handle], laidTests := true, laidLooks := .later }
def NetStepsUptoCardSaid : Prop := Claim7.holds Tryd.pinned (.plain (OpenSpec.upto netStepsSpec)) netStepsUptoCard

/-- THE SECOND FORM's CARD OF 'fuseelaw32.NetCounts'. -/
def netCountsUptoCard : Claim7 := { stood := { row := netCountsUptoRow, standIns := [], harness := (true, "248780f88ee668e503cff2a8c03b63a99e9cc024afd13bc23225b5b84d5ada31"), looks := true }, kinds := [], alts := [], laidByText := true, laidKinds := [.handle], laidTests := true, laidLooks := .later }
def NetCountsUptoCardSaid : Prop := Claim7.holds Tryd.pinned (.plain (OpenSpec.upto netCountsSpec)) netCountsUptoCard

/-- THE SECOND FORM's CARD OF 'fuseelaw26.FloorTells'. -/
def floorTellsUptoCard : Claim7 := { stood := { row := floorTellsUptoRow, standIns := [], harness := (true, "248780f88ee668e503cff2a8c03b63a99e9cc024afd13bc23225b5b84d5ada31"), looks := true }, kinds := [], alts := [], laidByText := true, laidKinds := [.handle], laidTests := true, laidLooks := .later }
def FloorTellsUptoCardSaid : Prop := Claim7.holds Tryd.pinned (.plain (OpenSpec.upto floorTellsSpec)) floorTellsUptoCard

/-- THE SECOND FORM's CARD OF 'fuseelaw26.FloorHolds'. -/
def floorHoldsUptoCard : Claim7 := { stood := { row := floorHoldsUptoRow, standIns := [], harness := (true, "248780f88ee668e503cff2a8c03b63a99e9cc024afd13bc23225b5b84d5ada31"), looks := true }, kinds := [], alts := [], laidByText := true, laidKinds := [.handle], laidTests := true, laidLooks := .later }
def FloorHoldsUptoCardSaid : Prop := Claim7.holds Tryd.pinned (.plain (OpenSpec.upto floorHoldsSpec)) floorHoldsUptoCard

/-- THE SECOND FORM's CARD OF 'fuseelaw09.LeapDays'. -/
def leapDaysUptoCard : Claim7 := { stood := { row := leapDaysUptoRow, standIns := [], harness := (true, "248780f88ee668e503cff2a8c03b63a99e9cc024afd13bc23225b5b84d5ada31"), looks := true }, kinds := [], alts := [], laidByText := true, laidKinds := [.handle], laidTests := true, laidLooks := .later }
def LeapDaysUptoCardSaid : Prop := Claim7.holds Tryd.pinned (.plain (OpenSpec.upto leapDaysSpec)) leapDaysUptoCard

/-- THE SECOND FORM's CARD OF 'fuseelaw09.LeapMore'. -/
def leapMoreUptoCard : Claim7 := { stood := { row := leapMoreUptoRow, standIns := [], harness := (true, "248780f88ee668e503cff2a8c03b63a99e9cc024afd13bc23225b5b84d5ada31"), looks := true }, kinds := [], alts := [], laidByText := true, laidKinds := [.handle], laidTests := true, laidLooks := .later }
def LeapMoreUptoCardSaid : Prop := Claim7.holds Tryd.pinned (.plain (OpenSpec.upto leapMoreSpec)) leapMoreUptoCard

/-- THE SECOND FORM's CARD OF 'fuseelaw09.LeapMoments'. -/
def leapMomentsUptoCard : Claim7 := { stood := { row := leapMomentsUptoRow, standIns := [], harness := (true, "248780f88ee668e503cff2a8c03b63a99e9cc024afd13bc23225b5b84d5ada31"), looks := true }, kinds := [], alts := [], laidByText := true, laidKinds := [.handle], laidTests := true, laidLooks := .later }
def LeapMomentsUptoCardSaid : Prop := Claim7.holds Tryd.pinned (.plain (OpenSpec.upto leapMomentsSpec)) leapMomentsUptoCard

/-- THE SECOND FORM's CARD OF 'fuseelaw09.LeapBack'. -/
def leapBackUptoCard : Claim7 := { stood := { row := leapBackUptoRow, standIns := [], harness := (true, "248780f88ee668e503cff2a8c03b63a99e9cc024afd13bc23225b5b84d5ada31"), looks := true }, kinds := [], alts := [], laidByText := true, laidKinds := [.handle], laidTests := true, laidLooks := .later }
def LeapBackUptoCardSaid : Prop := Claim7.holds Tryd.pinned (.plain (OpenSpec.upto leapBackSpec)) leapBackUptoCard

/-- THE SECOND FORM's CARD OF 'fuseelaw09.LeapForms'. -/
def leapFormsUptoCard : Claim7 := { stood := { row := leapFormsUptoRow, standIns := [], harness := (true, "248780f88ee668e503cff2a8c03b63a99e9cc024afd13bc23225b5b84d5ada31"), looks := true }, kinds := [], alts := [], laidByText := true, laidKinds := [.handle], laidTests := true, laidLooks := .later }
def LeapFormsUptoCardSaid : Prop := Claim7.holds Tryd.pinned (.plain (OpenSpec.upto leapFormsSpec)) leapFormsUptoCard
end Rows
end Go.Proofs.YtnlaiiophongmaaDoor
