/-
  No cell of these rows narrows 'for every input' (looked for: loops, veiled, ifaces, maps, wideKeys, modest, calm, conditions, laid).
  DERIVED. THE GIVEN ROWS OF THIS SEAT. 4 by the template 'for every input the law returns true; each argument reads behind the call as it read before'; 0 by the template 'total and deterministic' (their statements: YtiljnlhmeolhfaaTotals.lean).
  GIVEN WITH THE SEED: the statements are not yours to turn. If you find one false, say at which input.
  Laid BY PROGRAM, IN A SANDBOX (cutbox-rows.mjs): the forced cells as the released guide's own fill.sh prints them over the translation 0bbdda018638ec3e… (all of the seat's roots in one cut). By AI agents, Wed Nov 11 2026. No macro, syntax, notation, axiom, sorry.
-/
import Derived.Test.YtiljnlhmeolhfaaChecked
import GoSem.Claim
import GoSem.ClaimJoined
import GoSem.ClaimMapViews
import Derived.JoinedTies
import Derived.KernelRfl
namespace Go.Proofs.Ytiljnlhmeolhfaa
/- THE CELL 'sum', in the pinned program and in every row, IS THE sha256 OF THE DUMP (.gsa) THAT YtiljnlhmeolhfaaProg.lean LOADS. Nothing in Lean hashes anything: it is a label: what it is worth is what the hold of that sum in a sandbox is worth. -/
noncomputable def Try.pinned : Pinned := { name := "ytiljnlhmeolhfaa", sum := "0bbdda018638ec3e46b970f94f6ead5c79cd9c0d1d6d998047ffd9f66ed1dad2", checked := Try.checked }
namespace Rows
def none {H : Type} : Left H := { results := [], args := [] }

/-- 'fuseelaw23.PrfSums': WHATEVER THE INPUT: true; the input reads as it did. -/
def prfSumsSpec : ChangeSpec := { name := "prfSums", fn := fun _ => fun
  | [d1, d2, d3] => { results := [.lit (.bool true)], args := [d1, d2, d3] }
  | _ => none }
def prfSumsRow : OpenClaim := { program := "ytiljnlhmeolhfaa", sum := "0bbdda018638ec3e46b970f94f6ead5c79cd9c0d1d6d998047ffd9f66ed1dad2", func := "fusee/fuseelaw23.PrfSums", spec := "prfSums", unfollowed := true, recurses := true, apart := false }
def PrfSumsSaid : Prop := prfSumsRow.holds Try.pinned (OpenSpec.ofChange prfSumsSpec)

/-- ITS FALSE NEIGHBOUR: 'it returns false'. Refute it at one input. -/
def prfSumsWrong : ChangeSpec := { name := "prfSums", fn := fun _ => fun
  | [d1, d2, d3] => { results := [.lit (.bool false)], args := [d1, d2, d3] }
  | _ => none }
def PrfSumsWrongFalsely : Prop := prfSumsRow.holds Try.pinned (OpenSpec.ofChange prfSumsWrong)

/-- 'fuseelaw23.PrfWithin': WHATEVER THE INPUT: true; the input reads as it did. -/
def prfWithinSpec : ChangeSpec := { name := "prfWithin", fn := fun _ => fun
  | [d1, d2, d3] => { results := [.lit (.bool true)], args := [d1, d2, d3] }
  | _ => none }
def prfWithinRow : OpenClaim := { program := "ytiljnlhmeolhfaa", sum := "0bbdda018638ec3e46b970f94f6ead5c79cd9c0d1d6d998047ffd9f66ed1dad2", func := "fusee/fuseelaw23.PrfWithin", spec := "prfWithin", unfollowed := true, recurses := true, apart := false }
def PrfWithinSaid : Prop := prfWithinRow.holds Try.pinned (OpenSpec.ofChange prfWithinSpec)

/-- ITS FALSE NEIGHBOUR: 'it returns false'. Refute it at one input. -/
def prfWithinWrong : ChangeSpec := { name := "prfWithin", fn := fun _ => fun
  | [d1, d2, d3] => { results := [.lit (.bool false)], args := [d1, d2, d3] }
  | _ => none }
def PrfWithinWrongFalsely : Prop := prfWithinRow.holds Try.pinned (OpenSpec.ofChange prfWithinWrong)

/-- 'fuseelaw38.AuditTells': WHATEVER THE INPUT: true; the input reads as it did. -/
def auditTellsSpec : ChangeSpec := { name := "auditTells", fn := fun _ => fun
  | [d1, d2, d3] => { results := [.lit (.bool true)], args := [d1, d2, d3] }
  | _ => none }
def auditTellsRow : OpenClaim := { program := "ytiljnlhmeolhfaa", sum := "0bbdda018638ec3e46b970f94f6ead5c79cd9c0d1d6d998047ffd9f66ed1dad2", func := "fusee/fuseelaw38.AuditTells", spec := "auditTells", unfollowed := true, recurses := true, apart := false }
def AuditTellsSaid : Prop := auditTellsRow.holds Try.pinned (OpenSpec.ofChange auditTellsSpec)

/-- ITS FALSE NEIGHBOUR: 'it returns false'. Refute it at one input. -/
def auditTellsWrong : ChangeSpec := { name := "auditTells", fn := fun _ => fun
  | [d1, d2, d3] => { results := [.lit (.bool false)], args := [d1, d2, d3] }
  | _ => none }
def AuditTellsWrongFalsely : Prop := auditTellsRow.holds Try.pinned (OpenSpec.ofChange auditTellsWrong)

/-- 'fuseelaw38.AuditAlone': WHATEVER THE INPUT: true; the input reads as it did. -/
def auditAloneSpec : ChangeSpec := { name := "auditAlone", fn := fun _ => fun
  | [d1, d2] => { results := [.lit (.bool true)], args := [d1, d2] }
  | _ => none }
def auditAloneRow : OpenClaim := { program := "ytiljnlhmeolhfaa", sum := "0bbdda018638ec3e46b970f94f6ead5c79cd9c0d1d6d998047ffd9f66ed1dad2", func := "fusee/fuseelaw38.AuditAlone", spec := "auditAlone", unfollowed := true, recurses := true, apart := false }
def AuditAloneSaid : Prop := auditAloneRow.holds Try.pinned (OpenSpec.ofChange auditAloneSpec)

/-- ITS FALSE NEIGHBOUR: 'it returns false'. Refute it at one input. -/
def auditAloneWrong : ChangeSpec := { name := "auditAlone", fn := fun _ => fun
  | [d1, d2] => { results := [.lit (.bool false)], args := [d1, d2] }
  | _ => none }
def AuditAloneWrongFalsely : Prop := auditAloneRow.holds Try.pinned (OpenSpec.ofChange auditAloneWrong)

/- THE SECOND FORM. 'bulk': how many values and letters a reading holds, each counted each time it is reached (what is shared counts as often as it is met; a slice's spare places count too). A statement '..UptoSaid' is the law's where the arguments, and the package variables that the reading takes, are together of bulk at most 1048576: NARROWER than '..Said'. Prove '..Said' where nothing that the law and all that it calls make is longer than what came in: it says more and counts as full. Else prove '..UptoSaid'. A law counts once. -/
mutual
def uptoBulk {H : Type} : DataW H → Nat
  | .lit (.string bytes) => bytes.length + 1
  | .lit _ => 1
  | .nil => 1
  | .ptr d => uptoBulk d + 1
  | .slice elems spare => uptoBulkAll elems + uptoBulkAll spare + 1
  | .agg parts => uptoBulkAll parts + 1
  | .iface _ d => uptoBulk d + 1
  | .map entries => uptoBulkEntries entries + 1
  | .held _ => 1
def uptoBulkAll {H : Type} : List (DataW H) → Nat
  | [] => 0
  | d :: r => uptoBulk d + uptoBulkAll r
def uptoBulkEntries {H : Type} : List (Lit × DataW H) → Nat
  | [] => 0
  | x :: r => uptoBulkEntry x + uptoBulkEntries r
def uptoBulkEntry {H : Type} : Lit × DataW H → Nat
  | (.string bytes, d) => bytes.length + uptoBulk d + 1
  | (_, d) => uptoBulk d + 1
 end
def uptoSmall : (H : Type) → List (DataW H) → Bool := fun _ ds => decide (uptoBulkAll ds ≤ 1048576)
def OpenSpec.upto (s : _root_.Go.ChangeSpec) : _root_.Go.OpenSpec := { _root_.Go.OpenSpec.ofChange s with cond := some uptoSmall }

/-- 'fuseelaw23.PrfSums', WHERE WHAT IT READS IS OF BULK AT MOST 1048576: true; the input reads as it did. -/
def prfSumsUptoRow : OpenClaim := { program := "ytiljnlhmeolhfaa", sum := "0bbdda018638ec3e46b970f94f6ead5c79cd9c0d1d6d998047ffd9f66ed1dad2", func := "fusee/fuseelaw23.PrfSums", spec := "prfSums", unfollowed := true, recurses := true, apart := false, narrowed := true }
def PrfSumsUptoSaid : Prop := prfSumsUptoRow.holds Try.pinned (OpenSpec.upto prfSumsSpec)

/-- 'fuseelaw23.PrfWithin', WHERE WHAT IT READS IS OF BULK AT MOST 1048576: true; the input reads as it did. -/
def prfWithinUptoRow : OpenClaim := { program := "ytiljnlhmeolhfaa", sum := "0bbdda018638ec3e46b970f94f6ead5c79cd9c0d1d6d998047ffd9f66ed1dad2", func := "fusee/fuseelaw23.PrfWithin", spec := "prfWithin", unfollowed := true, recurses := true, apart := false, narrowed := true }
def PrfWithinUptoSaid : Prop := prfWithinUptoRow.holds Try.pinned (OpenSpec.upto prfWithinSpec)

/-- 'fuseelaw38.AuditTells', WHERE WHAT IT READS IS OF BULK AT MOST 1048576: true; the input reads as it did. -/
def auditTellsUptoRow : OpenClaim := { program := "ytiljnlhmeolhfaa", sum := "0bbdda018638ec3e46b970f94f6ead5c79cd9c0d1d6d998047ffd9f66ed1dad2", func := "fusee/fuseelaw38.AuditTells", spec := "auditTells", unfollowed := true, recurses := true, apart := false, narrowed := true }
def AuditTellsUptoSaid : Prop := auditTellsUptoRow.holds Try.pinned (OpenSpec.upto auditTellsSpec)

/-- 'fuseelaw38.AuditAlone', WHERE WHAT IT READS IS OF BULK AT MOST 1048576: true; the input reads as it did. -/
def auditAloneUptoRow : OpenClaim := { program := "ytiljnlhmeolhfaa", sum := "0bbdda018638ec3e46b970f94f6ead5c79cd9c0d1d6d998047ffd9f66ed1dad2", func := "fusee/fuseelaw38.AuditAlone", spec := "auditAlone", unfollowed := true, recurses := true, apart := false, narrowed := true }
def AuditAloneUptoSaid : Prop := auditAloneUptoRow.holds Try.pinned (OpenSpec.upto auditAloneSpec)

end Rows
end Go.Proofs.Ytiljnlhmeolhfaa
