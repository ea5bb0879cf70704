/-
  DERIVED. GIVEN WITH THE SEED: THE CARDS: each row of YtfipgpfmlkfkfaaDoorRows.lean that lists a variable, with what it lists TIED to the program's text (the seventh form; the later family's looks); each row that meets fmt, with fmt's text TOLD by the authors' own Lean function (tested against real Go, not proved from fmt's source: count such statements apart). THE CARD IS WHAT COUNTS. Prove the row's statement (the work); the ties are given (YtfipgpfmlkfkfaaDoorTie.lean); close each card by the builder's one call (the guide's Derived/Test/ToyasCard.lean, 'card_holds'). Laid BY PROGRAM, IN A SANDBOX (cutbox-door.mjs). By AI agents, Wed Nov 11 2026. No macro, syntax, notation, axiom, sorry.
-/
import Derived.Test.YtfipgpfmlkfkfaaDoorRows
import GoSem.ClaimSeven
namespace Go.Proofs.YtfipgpfmlkfkfaaDoor
namespace Rows

/-- THE TIED CARD OF 'fuseelaw16.ServoSteps'. -/
def servoStepsCard : Claim7 := { stood := { row := servoStepsRow, standIns := [], harness := (true, "6bd348f425e5127317bb9e04e7af2b57cf0bb6f4617af795b927aa6a7fceca8c"), looks := true }, kinds := [], alts := [], laidByText := true, laidKinds := [.handle], laidTests := true, laidLooks := .later }
def ServoStepsCardSaid : Prop := Claim7.holds Tryd.pinned (.plain (OpenSpec.ofChange servoStepsSpec)) servoStepsCard

/-- THE TIED CARD OF 'fuseelaw16.ServoHolds'. -/
def servoHoldsCard : Claim7 := { stood := { row := servoHoldsRow, standIns := [], harness := (true, "6bd348f425e5127317bb9e04e7af2b57cf0bb6f4617af795b927aa6a7fceca8c"), looks := true }, kinds := [], alts := [], laidByText := true, laidKinds := [.handle], laidTests := true, laidLooks := .later }
def ServoHoldsCardSaid : Prop := Claim7.holds Tryd.pinned (.plain (OpenSpec.ofChange servoHoldsSpec)) servoHoldsCard

/-- THE TIED CARD OF 'fuseelaw16.ServoSlews'. -/
def servoSlewsCard : Claim7 := { stood := { row := servoSlewsRow, standIns := [], harness := (true, "6bd348f425e5127317bb9e04e7af2b57cf0bb6f4617af795b927aa6a7fceca8c"), looks := true }, kinds := [], alts := [], laidByText := true, laidKinds := [.handle], laidTests := true, laidLooks := .later }
def ServoSlewsCardSaid : Prop := Claim7.holds Tryd.pinned (.plain (OpenSpec.ofChange servoSlewsSpec)) servoSlewsCard

/-- THE TIED CARD OF 'fuseelaw04.CrcSums'. -/
def crcSumsCard : Claim7 := { stood := { row := crcSumsRow, standIns := [], harness := (true, "6bd348f425e5127317bb9e04e7af2b57cf0bb6f4617af795b927aa6a7fceca8c"), looks := true }, kinds := [], alts := [], laidByText := true, laidKinds := [.handle], laidTests := true, laidLooks := .later }
def CrcSumsCardSaid : Prop := Claim7.holds Tryd.pinned (.plain (OpenSpec.ofChange crcSumsSpec)) crcSumsCard

/-- THE TIED CARD OF 'fuseelaw04.CrcFinds'. -/
def crcFindsCard : Claim7 := { stood := { row := crcFindsRow, standIns := [], harness := (true, "6bd348f425e5127317bb9e04e7af2b57cf0bb6f4617af795b927aa6a7fceca8c"), looks := true }, kinds := [], alts := [], laidByText := true, laidKinds := [.handle], laidTests := true, laidLooks := .later }
def CrcFindsCardSaid : Prop := Claim7.holds Tryd.pinned (.plain (OpenSpec.ofChange crcFindsSpec)) crcFindsCard

/-- THE TIED CARD OF 'fuseelaw13.SpanVotes'. -/
def spanVotesCard : Claim7 := { stood := { row := spanVotesRow, standIns := [], harness := (true, "6bd348f425e5127317bb9e04e7af2b57cf0bb6f4617af795b927aa6a7fceca8c"), looks := true }, kinds := [], alts := [], laidByText := true, laidKinds := [.handle], laidTests := true, laidLooks := .later }
def SpanVotesCardSaid : Prop := Claim7.holds Tryd.pinned (.plain (OpenSpec.ofChange spanVotesSpec)) spanVotesCard

/-- THE TIED CARD OF 'fuseelaw13.SpanMost'. -/
def spanMostCard : Claim7 := { stood := { row := spanMostRow, standIns := [], harness := (true, "6bd348f425e5127317bb9e04e7af2b57cf0bb6f4617af795b927aa6a7fceca8c"), looks := true }, kinds := [], alts := [], laidByText := true, laidKinds := [.handle], laidTests := true, laidLooks := .later }
def SpanMostCardSaid : Prop := Claim7.holds Tryd.pinned (.plain (OpenSpec.ofChange spanMostSpec)) spanMostCard

/-- THE TIED CARD OF 'fuseelaw27.PauseTells'. -/
def pauseTellsCard : Claim7 := { stood := { row := pauseTellsRow, standIns := [], harness := (true, "6bd348f425e5127317bb9e04e7af2b57cf0bb6f4617af795b927aa6a7fceca8c"), looks := true }, kinds := [], alts := [], laidByText := true, laidKinds := [.handle], laidTests := true, laidLooks := .later }
def PauseTellsCardSaid : Prop := Claim7.holds Tryd.pinned (.plain (OpenSpec.ofChange pauseTellsSpec)) pauseTellsCard

/-- THE TIED CARD OF 'fuseelaw27.PauseHolds'. -/
def pauseHoldsCard : Claim7 := { stood := { row := pauseHoldsRow, standIns := [], harness := (true, "6bd348f425e5127317bb9e04e7af2b57cf0bb6f4617af795b927aa6a7fceca8c"), looks := true }, kinds := [], alts := [], laidByText := true, laidKinds := [.handle], laidTests := true, laidLooks := .later }
def PauseHoldsCardSaid : Prop := Claim7.holds Tryd.pinned (.plain (OpenSpec.ofChange pauseHoldsSpec)) pauseHoldsCard

/-- THE TIED CARD OF 'fuseelaw27.PauseLost'. -/
def pauseLostCard : Claim7 := { stood := { row := pauseLostRow, standIns := [], harness := (true, "6bd348f425e5127317bb9e04e7af2b57cf0bb6f4617af795b927aa6a7fceca8c"), looks := true }, kinds := [], alts := [], laidByText := true, laidKinds := [.handle], laidTests := true, laidLooks := .later }
def PauseLostCardSaid : Prop := Claim7.holds Tryd.pinned (.plain (OpenSpec.ofChange pauseLostSpec)) pauseLostCard

/-- THE TIED CARD OF 'fuseelaw13.SpanSteps'. -/
def spanStepsCard : Claim7 := { stood := { row := spanStepsRow, standIns := [], harness := (true, "6bd348f425e5127317bb9e04e7af2b57cf0bb6f4617af795b927aa6a7fceca8c"), looks := true }, kinds := [], alts := [], laidByText := true, laidKinds := [.handle], laidTests := true, laidLooks := .later }
def SpanStepsCardSaid : Prop := Claim7.holds Tryd.pinned (.plain (OpenSpec.ofChange spanStepsSpec)) spanStepsCard

/-- THE TIED CARD OF 'fuseelaw13.SpanMeets'. -/
def spanMeetsCard : Claim7 := { stood := { row := spanMeetsRow, standIns := [], harness := (true, "6bd348f425e5127317bb9e04e7af2b57cf0bb6f4617af795b927aa6a7fceca8c"), looks := true }, kinds := [], alts := [], laidByText := true, laidKinds := [.handle], laidTests := true, laidLooks := .later }
def SpanMeetsCardSaid : Prop := Claim7.holds Tryd.pinned (.plain (OpenSpec.ofChange spanMeetsSpec)) spanMeetsCard

/-- THE SECOND FORM's CARD OF 'fuseelaw16.ServoSteps'. -/
def servoStepsUptoCard : Claim7 := { stood := { row := servoStepsUptoRow, standIns := [], harness := (true, "6bd348f425e5127317bb9e04e7af2b57cf0bb6f4617af795b927aa6a7fceca8c"), looks := true }, kinds := [], alts := [], laidByText := true, laidKinds := [.handle], laidTests := true, laidLooks := .later }
def ServoStepsUptoCardSaid : Prop := Claim7.holds Tryd.pinned (.plain (OpenSpec.upto servoStepsSpec)) servoStepsUptoCard

/-- THE SECOND FORM's CARD OF 'fuseelaw16.ServoHolds'. -/
def servoHoldsUptoCard : Claim7 := { stood := { row := servoHoldsUptoRow, standIns := [], harness := (true, "6bd348f425e5127317bb9e04e7af2b57cf0bb6f4617af795b927aa6a7fceca8c"), looks := true }, kinds := [], alts := [], laidByText := true, laidKinds := [.handle], laidTests := true, laidLooks := .later }
def ServoHoldsUptoCardSaid : Prop := Claim7.holds Tryd.pinned (.plain (OpenSpec.upto servoHoldsSpec)) servoHoldsUptoCard

/-- THE SECOND FORM's CARD OF 'fuseelaw16.ServoSlews'. -/
def servoSlewsUptoCard : Claim7 := { stood := { row := servoSlewsUptoRow, standIns := [], harness := (true, "6bd348f425e5127317bb9e04e7af2b57cf0bb6f4617af795b927aa6a7fceca8c"), looks := true }, kinds := [], alts := [], laidByText := true, laidKinds := [.handle], laidTests := true, laidLooks := .later }
def ServoSlewsUptoCardSaid : Prop := Claim7.holds Tryd.pinned (.plain (OpenSpec.upto servoSlewsSpec)) servoSlewsUptoCard

/-- THE SECOND FORM's CARD OF 'fuseelaw04.CrcSums'. -/
def crcSumsUptoCard : Claim7 := { stood := { row := crcSumsUptoRow, standIns := [], harness := (true, "6bd348f425e5127317bb9e04e7af2b57cf0bb6f4617af795b927aa6a7fceca8c"), looks := true }, kinds := [], alts := [], laidByText := true, laidKinds := [.handle], laidTests := true, laidLooks := .later }
def CrcSumsUptoCardSaid : Prop := Claim7.holds Tryd.pinned (.plain (OpenSpec.upto crcSumsSpec)) crcSumsUptoCard

/-- THE SECOND FORM's CARD OF 'fuseelaw04.CrcFinds'. -/
def crcFindsUptoCard : Claim7 := { stood := { row := crcFindsUptoRow, standIns := [], harness := (true, "6bd348f425e5127317bb9e04e7af2b57cf0bb6f4617af795b927aa6a7fceca8c"), looks := true }, kinds := [], alts := [], laidByText := true, laidKinds := [.handle], laidTests := true, laidLooks := .later }
def CrcFindsUptoCardSaid : Prop := Claim7.holds Tryd.pinned (.plain (OpenSpec.upto crcFindsSpec)) crcFindsUptoCard

/-- THE SECOND FORM's CARD OF 'fuseelaw13.SpanVotes'. -/
def spanVotesUptoCard : Claim7 := { stood := { row := spanVotesUptoRow, standIns := [], harness := (true, "6bd348f425e5127317bb9e04e7af2b57cf0bb6f4617af795b927aa6a7fceca8c"), looks := true }, kinds := [], alts := [], laidByText := true, laidKinds := [.handle], laidTests := true, laidLooks := .later }
def SpanVotesUptoCardSaid : Prop := Claim7.holds Tryd.pinned (.plain (OpenSpec.upto spanVotesSpec)) spanVotesUptoCard

/-- THE SECOND FORM's CARD OF 'fuseelaw13.SpanMost'. -/
def spanMostUptoCard : Claim7 := { stood := { row := spanMostUptoRow, standIns := [], harness := (true, "6bd348f425e5127317bb9e04e7af2b57cf0bb6f4617af795b927aa6a7fceca8c"), looks := true }, kinds := [], alts := [], laidByText := true, laidKinds := [.handle], laidTests := true, laidLooks := .later }
def SpanMostUptoCardSaid : Prop := Claim7.holds Tryd.pinned (.plain (OpenSpec.upto spanMostSpec)) spanMostUptoCard

/-- THE SECOND FORM's CARD OF 'fuseelaw27.PauseTells'. -/
def pauseTellsUptoCard : Claim7 := { stood := { row := pauseTellsUptoRow, standIns := [], harness := (true, "6bd348f425e5127317bb9e04e7af2b57cf0bb6f4617af795b927aa6a7fceca8c"), looks := true }, kinds := [], alts := [], laidByText := true, laidKinds := [.handle], laidTests := true, laidLooks := .later }
def PauseTellsUptoCardSaid : Prop := Claim7.holds Tryd.pinned (.plain (OpenSpec.upto pauseTellsSpec)) pauseTellsUptoCard

/-- THE SECOND FORM's CARD OF 'fuseelaw27.PauseHolds'. -/
def pauseHoldsUptoCard : Claim7 := { stood := { row := pauseHoldsUptoRow, standIns := [], harness := (true, "6bd348f425e5127317bb9e04e7af2b57cf0bb6f4617af795b927aa6a7fceca8c"), looks := true }, kinds := [], alts := [], laidByText := true, laidKinds := [.handle], laidTests := true, laidLooks := .later }
def PauseHoldsUptoCardSaid : Prop := Claim7.holds Tryd.pinned (.plain (OpenSpec.upto pauseHoldsSpec)) pauseHoldsUptoCard

/-- THE SECOND FORM's CARD OF 'fuseelaw27.PauseLost'. -/
def pauseLostUptoCard : Claim7 := { stood := { row := pauseLostUptoRow, standIns := [], harness := (true, "6bd348f425e5127317bb9e04e7af2b57cf0bb6f4617af795b927aa6a7fceca8c"), looks := true }, kinds := [], alts := [], laidByText := true, laidKinds := [.handle], laidTests := true, laidLooks := .later }
def PauseLostUptoCardSaid : Prop := Claim7.holds Tryd.pinned (.plain (OpenSpec.upto pauseLostSpec)) pauseLostUptoCard

/-- THE SECOND FORM's CARD OF 'fuseelaw13.SpanSteps'. -/
def spanStepsUptoCard : Claim7 := { stood := { row := spanStepsUptoRow, standIns := [], harness := (true, "6bd348f425e5127317bb9e04e7af2b57cf0bb6f4617af795b927aa6a7fceca8c"), looks := true }, kinds := [], alts := [], laidByText := true, laidKinds := [.handle], laidTests := true, laidLooks := .later }
def SpanStepsUptoCardSaid : Prop := Claim7.holds Tryd.pinned (.plain (OpenSpec.upto spanStepsSpec)) spanStepsUptoCard

/-- THE SECOND FORM's CARD OF 'fuseelaw13.SpanMeets'. -/
def spanMeetsUptoCard : Claim7 := { stood := { row := spanMeetsUptoRow, standIns := [], harness := (true, "6bd348f425e5127317bb9e04e7af2b57cf0bb6f4617af795b927aa6a7fceca8c"), looks := true }, kinds := [], alts := [], laidByText := true, laidKinds := [.handle], laidTests := true, laidLooks := .later }
def SpanMeetsUptoCardSaid : Prop := Claim7.holds Tryd.pinned (.plain (OpenSpec.upto spanMeetsSpec)) spanMeetsUptoCard
end Rows
end Go.Proofs.YtfipgpfmlkfkfaaDoor
