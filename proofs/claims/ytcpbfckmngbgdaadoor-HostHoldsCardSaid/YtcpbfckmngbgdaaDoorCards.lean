/-
  DERIVED. GIVEN WITH THE SEED: THE CARDS: each row of YtcpbfckmngbgdaaDoorRows.lean that lists a variable, with what it lists TIED to the program's text (the seventh form; the later family's looks); each row that meets fmt, with fmt's text TOLD by the authors' own Lean function (tested against real Go, not proved from fmt's source: count such statements apart). THE CARD IS WHAT COUNTS. Prove the row's statement (the work); the ties are given (YtcpbfckmngbgdaaDoorTie.lean); close each card by the builder's one call (the guide's Derived/Test/ToyasCard.lean, 'card_holds'). Laid BY PROGRAM, IN A SANDBOX (cutbox-door.mjs). By AI agents, Wed Nov 11 2026. No macro, syntax, notation, axiom, sorry.
-/
import Derived.Test.YtcpbfckmngbgdaaDoorRows
import GoSem.ClaimSeven
namespace Go.Proofs.YtcpbfckmngbgdaaDoor
namespace Rows

/-- THE TIED CARD OF 'fuseelaw41.NtpForms'. -/
def ntpFormsCard : Claim7 := { stood := { row := ntpFormsRow, standIns := [], harness := (true, "6808bb906c9cd9d685b7f37b559249a5c27827bce3a2b6ac3236519b28ee5c82"), looks := true }, kinds := [], alts := [], laidByText := true, laidKinds := [.handle], laidTests := true, laidLooks := .later }
def NtpFormsCardSaid : Prop := Claim7.holds Tryd.pinned (.plain (OpenSpec.ofChange ntpFormsSpec)) ntpFormsCard

/-- THE TIED CARD OF 'fuseelaw22.AheadTells'. -/
def aheadTellsCard : Claim7 := { stood := { row := aheadTellsRow, standIns := [], harness := (true, "6808bb906c9cd9d685b7f37b559249a5c27827bce3a2b6ac3236519b28ee5c82"), looks := true }, kinds := [], alts := [], laidByText := true, laidKinds := [.handle], laidTests := true, laidLooks := .later }
def AheadTellsCardSaid : Prop := Claim7.holds Tryd.pinned (.plain (OpenSpec.ofChange aheadTellsSpec)) aheadTellsCard

/-- THE TIED CARD OF 'fuseelaw41.NtpAsks'. -/
def ntpAsksCard : Claim7 := { stood := { row := ntpAsksRow, standIns := [], harness := (true, "6808bb906c9cd9d685b7f37b559249a5c27827bce3a2b6ac3236519b28ee5c82"), looks := true }, kinds := [], alts := [], laidByText := true, laidKinds := [.handle], laidTests := true, laidLooks := .later }
def NtpAsksCardSaid : Prop := Claim7.holds Tryd.pinned (.plain (OpenSpec.ofChange ntpAsksSpec)) ntpAsksCard

/-- THE TIED CARD OF 'fuseelaw41.NtpHolds'. -/
def ntpHoldsCard : Claim7 := { stood := { row := ntpHoldsRow, standIns := [], harness := (true, "6808bb906c9cd9d685b7f37b559249a5c27827bce3a2b6ac3236519b28ee5c82"), looks := true }, kinds := [], alts := [], laidByText := true, laidKinds := [.handle], laidTests := true, laidLooks := .later }
def NtpHoldsCardSaid : Prop := Claim7.holds Tryd.pinned (.plain (OpenSpec.ofChange ntpHoldsSpec)) ntpHoldsCard

/-- THE TIED CARD OF 'fuseelaw15.FilterTells'. -/
def filterTellsCard : Claim7 := { stood := { row := filterTellsRow, standIns := [], harness := (true, "6808bb906c9cd9d685b7f37b559249a5c27827bce3a2b6ac3236519b28ee5c82"), looks := true }, kinds := [], alts := [], laidByText := true, laidKinds := [.handle], laidTests := true, laidLooks := .later }
def FilterTellsCardSaid : Prop := Claim7.holds Tryd.pinned (.plain (OpenSpec.ofChange filterTellsSpec)) filterTellsCard

/-- THE TIED CARD OF 'fuseelaw15.FilterRight'. -/
def filterRightCard : Claim7 := { stood := { row := filterRightRow, standIns := [], harness := (true, "6808bb906c9cd9d685b7f37b559249a5c27827bce3a2b6ac3236519b28ee5c82"), looks := true }, kinds := [], alts := [], laidByText := true, laidKinds := [.handle], laidTests := true, laidLooks := .later }
def FilterRightCardSaid : Prop := Claim7.holds Tryd.pinned (.plain (OpenSpec.ofChange filterRightSpec)) filterRightCard

/-- THE TIED CARD OF 'fuseelaw15.FilterOld'. -/
def filterOldCard : Claim7 := { stood := { row := filterOldRow, standIns := [], harness := (true, "6808bb906c9cd9d685b7f37b559249a5c27827bce3a2b6ac3236519b28ee5c82"), looks := true }, kinds := [], alts := [], laidByText := true, laidKinds := [.handle], laidTests := true, laidLooks := .later }
def FilterOldCardSaid : Prop := Claim7.holds Tryd.pinned (.plain (OpenSpec.ofChange filterOldSpec)) filterOldCard

/-- THE TIED CARD OF 'fuseelaw22.AheadHost'. -/
def aheadHostCard : Claim7 := { stood := { row := aheadHostRow, standIns := [], harness := (true, "6808bb906c9cd9d685b7f37b559249a5c27827bce3a2b6ac3236519b28ee5c82"), looks := true }, kinds := [], alts := [], laidByText := true, laidKinds := [.handle], laidTests := true, laidLooks := .later }
def AheadHostCardSaid : Prop := Claim7.holds Tryd.pinned (.plain (OpenSpec.ofChange aheadHostSpec)) aheadHostCard

/-- THE TIED CARD OF 'fuseelaw18.HostHolds'. -/
def hostHoldsCard : Claim7 := { stood := { row := hostHoldsRow, standIns := [], harness := (true, "6808bb906c9cd9d685b7f37b559249a5c27827bce3a2b6ac3236519b28ee5c82"), looks := true }, kinds := [], alts := [], laidByText := true, laidKinds := [.handle], laidTests := true, laidLooks := .later }
def HostHoldsCardSaid : Prop := Claim7.holds Tryd.pinned (.plain (OpenSpec.ofChange hostHoldsSpec)) hostHoldsCard

/-- THE TIED CARD OF 'fuseelaw18.HostLater'. -/
def hostLaterCard : Claim7 := { stood := { row := hostLaterRow, standIns := [], harness := (true, "6808bb906c9cd9d685b7f37b559249a5c27827bce3a2b6ac3236519b28ee5c82"), looks := true }, kinds := [], alts := [], laidByText := true, laidKinds := [.handle], laidTests := true, laidLooks := .later }
def HostLaterCardSaid : Prop := Claim7.holds Tryd.pinned (.plain (OpenSpec.ofChange hostLaterSpec)) hostLaterCard

/-- THE SECOND FORM's CARD OF 'fuseelaw41.NtpForms'. -/
def ntpFormsUptoCard : Claim7 := { stood := { row := ntpFormsUptoRow, standIns := [], harness := (true, "6808bb906c9cd9d685b7f37b559249a5c27827bce3a2b6ac3236519b28ee5c82"), looks := true }, kinds := [], alts := [], laidByText := true, laidKinds := [.handle], laidTests := true, laidLooks := .later }
def NtpFormsUptoCardSaid : Prop := Claim7.holds Tryd.pinned (.plain (OpenSpec.upto ntpFormsSpec)) ntpFormsUptoCard

/-- THE SECOND FORM's CARD OF 'fuseelaw22.AheadTells'. -/
def aheadTellsUptoCard : Claim7 := { stood := { row := aheadTellsUptoRow, standIns := [], harness := (true, "6808bb906c9cd9d685b7f37b559249a5c27827bce3a2b6ac3236519b28ee5c82"), looks := true }, kinds := [], alts := [], laidByText := true, laidKinds := [.handle], laidTests := true, laidLooks := .later }
def AheadTellsUptoCardSaid : Prop := Claim7.holds Tryd.pinned (.plain (OpenSpec.upto aheadTellsSpec)) aheadTellsUptoCard

/-- THE SECOND FORM's CARD OF 'fuseelaw41.NtpAsks'. -/
def ntpAsksUptoCard : Claim7 := { stood := { row := ntpAsksUptoRow, standIns := [], harness := (true, "6808bb906c9cd9d685b7f37b559249a5c27827bce3a2b6ac3236519b28ee5c82"), looks := true }, kinds := [], alts := [], laidByText := true, laidKinds := [.handle], laidTests := true, laidLooks := .later }
def NtpAsksUptoCardSaid : Prop := Claim7.holds Tryd.pinned (.plain (OpenSpec.upto ntpAsksSpec)) ntpAsksUptoCard

/-- THE SECOND FORM's CARD OF 'fuseelaw41.NtpHolds'. -/
def ntpHoldsUptoCard : Claim7 := { stood := { row := ntpHoldsUptoRow, standIns := [], harness := (true, "6808bb906c9cd9d685b7f37b559249a5c27827bce3a2b6ac3236519b28ee5c82"), looks := true }, kinds := [], alts := [], laidByText := true, laidKinds := [.handle], laidTests := true, laidLooks := .later }
def NtpHoldsUptoCardSaid : Prop := Claim7.holds Tryd.pinned (.plain (OpenSpec.upto ntpHoldsSpec)) ntpHoldsUptoCard

/-- THE SECOND FORM's CARD OF 'fuseelaw15.FilterTells'. -/
def filterTellsUptoCard : Claim7 := { stood := { row := filterTellsUptoRow, standIns := [], harness := (true, "6808bb906c9cd9d685b7f37b559249a5c27827bce3a2b6ac3236519b28ee5c82"), looks := true }, kinds := [], alts := [], laidByText := true, laidKinds := [.handle], laidTests := true, laidLooks := .later }
def FilterTellsUptoCardSaid : Prop := Claim7.holds Tryd.pinned (.plain (OpenSpec.upto filterTellsSpec)) filterTellsUptoCard

/-- THE SECOND FORM's CARD OF 'fuseelaw15.FilterRight'. -/
def filterRightUptoCard : Claim7 := { stood := { row := filterRightUptoRow, standIns := [], harness := (true, "6808bb906c9cd9d685b7f37b559249a5c27827bce3a2b6ac3236519b28ee5c82"), looks := true }, kinds := [], alts := [], laidByText := true, laidKinds := [.handle], laidTests := true, laidLooks := .later }
def FilterRightUptoCardSaid : Prop := Claim7.holds Tryd.pinned (.plain (OpenSpec.upto filterRightSpec)) filterRightUptoCard

/-- THE SECOND FORM's CARD OF 'fuseelaw15.FilterOld'. -/
def filterOldUptoCard : Claim7 := { stood := { row := filterOldUptoRow, standIns := [], harness := (true, "6808bb906c9cd9d685b7f37b559249a5c27827bce3a2b6ac3236519b28ee5c82"), looks := true }, kinds := [], alts := [], laidByText := true, laidKinds := [.handle], laidTests := true, laidLooks := .later }
def FilterOldUptoCardSaid : Prop := Claim7.holds Tryd.pinned (.plain (OpenSpec.upto filterOldSpec)) filterOldUptoCard

/-- THE SECOND FORM's CARD OF 'fuseelaw22.AheadHost'. -/
def aheadHostUptoCard : Claim7 := { stood := { row := aheadHostUptoRow, standIns := [], harness := (true, "6808bb906c9cd9d685b7f37b559249a5c27827bce3a2b6ac3236519b28ee5c82"), looks := true }, kinds := [], alts := [], laidByText := true, laidKinds := [.handle], laidTests := true, laidLooks := .later }
def AheadHostUptoCardSaid : Prop := Claim7.holds Tryd.pinned (.plain (OpenSpec.upto aheadHostSpec)) aheadHostUptoCard

/-- THE SECOND FORM's CARD OF 'fuseelaw18.HostHolds'. -/
def hostHoldsUptoCard : Claim7 := { stood := { row := hostHoldsUptoRow, standIns := [], harness := (true, "6808bb906c9cd9d685b7f37b559249a5c27827bce3a2b6ac3236519b28ee5c82"), looks := true }, kinds := [], alts := [], laidByText := true, laidKinds := [.handle], laidTests := true, laidLooks := .later }
def HostHoldsUptoCardSaid : Prop := Claim7.holds Tryd.pinned (.plain (OpenSpec.upto hostHoldsSpec)) hostHoldsUptoCard

/-- THE SECOND FORM's CARD OF 'fuseelaw18.HostLater'. -/
def hostLaterUptoCard : Claim7 := { stood := { row := hostLaterUptoRow, standIns := [], harness := (true, "6808bb906c9cd9d685b7f37b559249a5c27827bce3a2b6ac3236519b28ee5c82"), looks := true }, kinds := [], alts := [], laidByText := true, laidKinds := [.handle], laidTests := true, laidLooks := .later }
def HostLaterUptoCardSaid : Prop := Claim7.holds Tryd.pinned (.plain (OpenSpec.upto hostLaterSpec)) hostLaterUptoCard
end Rows
end Go.Proofs.YtcpbfckmngbgdaaDoor
