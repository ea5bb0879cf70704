/-
  NARROWER THAN 'FOR EVERY INPUT', by the rows' own cells (each row's printed sentence says how): NtpForms: laid · AheadTells: laid · NtpAsks: laid · NtpHolds: laid · FilterTells: laid · FilterRight: laid · FilterOld: laid · AheadHost: laid · HostHolds: laid · HostLater: laid.
  DERIVED. THE GIVEN ROWS OF THIS SEAT. 10 by the template 'for every input the law returns true; each argument reads behind the call as it read before'; 0 by the template 'total and deterministic' (their statements: YtcpbfckmngbgdaaDoorTotals.lean).
  GIVEN WITH THE SEED: the statements are not yours to turn. If you find one false, say at which input.
  Laid BY PROGRAM, IN A SANDBOX (cutbox-rows.mjs): the forced cells as the released guide's own fill.sh prints them over the translation da6d0fc7e13dce53… (all of the seat's roots in one cut). By AI agents, Wed Nov 11 2026. No macro, syntax, notation, axiom, sorry.
-/
import Derived.Test.YtcpbfckmngbgdaaDoorChecked
import GoSem.Claim
import GoSem.ClaimJoined
import GoSem.ClaimMapViews
import Derived.JoinedTies
import Derived.KernelRfl
namespace Go.Proofs.YtcpbfckmngbgdaaDoor
/- THE CELL 'sum', in the pinned program and in every row, IS THE sha256 OF THE DUMP (.gsa) THAT YtcpbfckmngbgdaaDoorProg.lean LOADS. Nothing in Lean hashes anything: it is a label: what it is worth is what the hold of that sum in a sandbox is worth. -/
noncomputable def Tryd.pinned : Pinned := { name := "ytcpbfckmngbgdaadoor", sum := "da6d0fc7e13dce53546f5ea78d773280f65166f225d9900e75edbf34a1545e2e", checked := Tryd.checked }
namespace Rows
def none {H : Type} : Left H := { results := [], args := [] }

/- WHAT THE LISTED PACKAGE-LEVEL VARIABLES READ AS WHEN THE CALL BEGINS. Each datum BY PROGRAM (the guide's laid-datum.mjs) off the statement by which the dump's own 'gosem.cut.vars' lays the variable. In a bare row this is a premise. The card (YtcpbfckmngbgdaaDoorCards.lean) ties it to the program's text. -/
def laid_errors_errorType {H : Type} : DataW H := .iface "internal/reflectlite.rtype" (.agg [.ptr (.lit (.string [101, 114, 114, 111, 114]))])

/-- 'fuseelaw41.NtpForms': WHATEVER THE INPUT: true; the input reads as it did. -/
def ntpFormsSpec : ChangeSpec := { name := "ntpForms", fn := fun _ => fun
  | [d1, d2, d3] => { results := [.lit (.bool true)], args := [d1, d2, d3] }
  | _ => none }
def ntpFormsRow : OpenClaim := { program := "ytcpbfckmngbgdaadoor", sum := "da6d0fc7e13dce53546f5ea78d773280f65166f225d9900e75edbf34a1545e2e", func := "fusee/fuseelaw41.NtpForms", spec := "ntpForms", inPlace := ["internal/reflectlite.ValueOf", "(internal/reflectlite.Value).Type", "(internal/reflectlite.Value).IsNil", "internal/reflectlite.TypeOf", "(internal/reflectlite.Value).Elem", "(internal/reflectlite.Value).Set"], unfollowed := true, recurses := true, named := ["math/bits.divideError", "math/bits.overflowError", "errors.errorType"], apart := false, laid := [("errors.errorType", laid_errors_errorType)] }
def NtpFormsSaid : Prop := ntpFormsRow.holds Tryd.pinned (OpenSpec.ofChange ntpFormsSpec)

/-- ITS FALSE NEIGHBOUR: 'it returns false'. Refute it at one input. -/
def ntpFormsWrong : ChangeSpec := { name := "ntpForms", fn := fun _ => fun
  | [d1, d2, d3] => { results := [.lit (.bool false)], args := [d1, d2, d3] }
  | _ => none }
def NtpFormsWrongFalsely : Prop := ntpFormsRow.holds Tryd.pinned (OpenSpec.ofChange ntpFormsWrong)

/-- 'fuseelaw22.AheadTells': WHATEVER THE INPUT: true; the input reads as it did. -/
def aheadTellsSpec : ChangeSpec := { name := "aheadTells", fn := fun _ => fun
  | [d1, d2, d3] => { results := [.lit (.bool true)], args := [d1, d2, d3] }
  | _ => none }
def aheadTellsRow : OpenClaim := { program := "ytcpbfckmngbgdaadoor", sum := "da6d0fc7e13dce53546f5ea78d773280f65166f225d9900e75edbf34a1545e2e", func := "fusee/fuseelaw22.AheadTells", spec := "aheadTells", inPlace := ["internal/reflectlite.ValueOf", "(internal/reflectlite.Value).Type", "(internal/reflectlite.Value).IsNil", "internal/reflectlite.TypeOf", "(internal/reflectlite.Value).Elem", "(internal/reflectlite.Value).Set"], unfollowed := true, recurses := true, named := ["math/bits.divideError", "math/bits.overflowError", "errors.errorType"], apart := false, laid := [("errors.errorType", laid_errors_errorType)] }
def AheadTellsSaid : Prop := aheadTellsRow.holds Tryd.pinned (OpenSpec.ofChange aheadTellsSpec)

/-- ITS FALSE NEIGHBOUR: 'it returns false'. Refute it at one input. -/
def aheadTellsWrong : ChangeSpec := { name := "aheadTells", fn := fun _ => fun
  | [d1, d2, d3] => { results := [.lit (.bool false)], args := [d1, d2, d3] }
  | _ => none }
def AheadTellsWrongFalsely : Prop := aheadTellsRow.holds Tryd.pinned (OpenSpec.ofChange aheadTellsWrong)

/-- 'fuseelaw41.NtpAsks': WHATEVER THE INPUT: true; the input reads as it did. -/
def ntpAsksSpec : ChangeSpec := { name := "ntpAsks", fn := fun _ => fun
  | [d1, d2, d3] => { results := [.lit (.bool true)], args := [d1, d2, d3] }
  | _ => none }
def ntpAsksRow : OpenClaim := { program := "ytcpbfckmngbgdaadoor", sum := "da6d0fc7e13dce53546f5ea78d773280f65166f225d9900e75edbf34a1545e2e", func := "fusee/fuseelaw41.NtpAsks", spec := "ntpAsks", inPlace := ["internal/reflectlite.ValueOf", "(internal/reflectlite.Value).Type", "(internal/reflectlite.Value).IsNil", "internal/reflectlite.TypeOf", "(internal/reflectlite.Value).Elem", "(internal/reflectlite.Value).Set"], unfollowed := true, recurses := true, named := ["math/bits.divideError", "math/bits.overflowError", "errors.errorType"], apart := false, laid := [("errors.errorType", laid_errors_errorType)] }
def NtpAsksSaid : Prop := ntpAsksRow.holds Tryd.pinned (OpenSpec.ofChange ntpAsksSpec)

/-- ITS FALSE NEIGHBOUR: 'it returns false'. Refute it at one input. -/
def ntpAsksWrong : ChangeSpec := { name := "ntpAsks", fn := fun _ => fun
  | [d1, d2, d3] => { results := [.lit (.bool false)], args := [d1, d2, d3] }
  | _ => none }
def NtpAsksWrongFalsely : Prop := ntpAsksRow.holds Tryd.pinned (OpenSpec.ofChange ntpAsksWrong)

/-- 'fuseelaw41.NtpHolds': WHATEVER THE INPUT: true; the input reads as it did. -/
def ntpHoldsSpec : ChangeSpec := { name := "ntpHolds", fn := fun _ => fun
  | [d1, d2, d3] => { results := [.lit (.bool true)], args := [d1, d2, d3] }
  | _ => none }
def ntpHoldsRow : OpenClaim := { program := "ytcpbfckmngbgdaadoor", sum := "da6d0fc7e13dce53546f5ea78d773280f65166f225d9900e75edbf34a1545e2e", func := "fusee/fuseelaw41.NtpHolds", spec := "ntpHolds", inPlace := ["internal/reflectlite.ValueOf", "(internal/reflectlite.Value).Type", "(internal/reflectlite.Value).IsNil", "internal/reflectlite.TypeOf", "(internal/reflectlite.Value).Elem", "(internal/reflectlite.Value).Set"], unfollowed := true, recurses := true, named := ["math/bits.divideError", "math/bits.overflowError", "errors.errorType"], apart := false, laid := [("errors.errorType", laid_errors_errorType)] }
def NtpHoldsSaid : Prop := ntpHoldsRow.holds Tryd.pinned (OpenSpec.ofChange ntpHoldsSpec)

/-- ITS FALSE NEIGHBOUR: 'it returns false'. Refute it at one input. -/
def ntpHoldsWrong : ChangeSpec := { name := "ntpHolds", fn := fun _ => fun
  | [d1, d2, d3] => { results := [.lit (.bool false)], args := [d1, d2, d3] }
  | _ => none }
def NtpHoldsWrongFalsely : Prop := ntpHoldsRow.holds Tryd.pinned (OpenSpec.ofChange ntpHoldsWrong)

/-- 'fuseelaw15.FilterTells': WHATEVER THE INPUT: true; the input reads as it did. -/
def filterTellsSpec : ChangeSpec := { name := "filterTells", fn := fun _ => fun
  | [d1, d2, d3] => { results := [.lit (.bool true)], args := [d1, d2, d3] }
  | _ => none }
def filterTellsRow : OpenClaim := { program := "ytcpbfckmngbgdaadoor", sum := "da6d0fc7e13dce53546f5ea78d773280f65166f225d9900e75edbf34a1545e2e", func := "fusee/fuseelaw15.FilterTells", spec := "filterTells", inPlace := ["slices.overlaps[fusee/filter.Entry]", "internal/reflectlite.ValueOf", "(internal/reflectlite.Value).Type", "(internal/reflectlite.Value).IsNil", "internal/reflectlite.TypeOf", "(internal/reflectlite.Value).Elem", "(internal/reflectlite.Value).Set"], unfollowed := true, recurses := true, named := ["math/bits.divideError", "math/bits.overflowError", "errors.errorType"], apart := false, laid := [("errors.errorType", laid_errors_errorType)] }
def FilterTellsSaid : Prop := filterTellsRow.holds Tryd.pinned (OpenSpec.ofChange filterTellsSpec)

/-- ITS FALSE NEIGHBOUR: 'it returns false'. Refute it at one input. -/
def filterTellsWrong : ChangeSpec := { name := "filterTells", fn := fun _ => fun
  | [d1, d2, d3] => { results := [.lit (.bool false)], args := [d1, d2, d3] }
  | _ => none }
def FilterTellsWrongFalsely : Prop := filterTellsRow.holds Tryd.pinned (OpenSpec.ofChange filterTellsWrong)

/-- 'fuseelaw15.FilterRight': WHATEVER THE INPUT: true; the input reads as it did. -/
def filterRightSpec : ChangeSpec := { name := "filterRight", fn := fun _ => fun
  | [d1, d2, d3] => { results := [.lit (.bool true)], args := [d1, d2, d3] }
  | _ => none }
def filterRightRow : OpenClaim := { program := "ytcpbfckmngbgdaadoor", sum := "da6d0fc7e13dce53546f5ea78d773280f65166f225d9900e75edbf34a1545e2e", func := "fusee/fuseelaw15.FilterRight", spec := "filterRight", inPlace := ["slices.overlaps[fusee/filter.Entry]", "internal/reflectlite.ValueOf", "(internal/reflectlite.Value).Type", "(internal/reflectlite.Value).IsNil", "internal/reflectlite.TypeOf", "(internal/reflectlite.Value).Elem", "(internal/reflectlite.Value).Set"], unfollowed := true, recurses := true, named := ["math/bits.divideError", "math/bits.overflowError", "errors.errorType"], apart := false, laid := [("errors.errorType", laid_errors_errorType)] }
def FilterRightSaid : Prop := filterRightRow.holds Tryd.pinned (OpenSpec.ofChange filterRightSpec)

/-- ITS FALSE NEIGHBOUR: 'it returns false'. Refute it at one input. -/
def filterRightWrong : ChangeSpec := { name := "filterRight", fn := fun _ => fun
  | [d1, d2, d3] => { results := [.lit (.bool false)], args := [d1, d2, d3] }
  | _ => none }
def FilterRightWrongFalsely : Prop := filterRightRow.holds Tryd.pinned (OpenSpec.ofChange filterRightWrong)

/-- 'fuseelaw15.FilterOld': WHATEVER THE INPUT: true; the input reads as it did. -/
def filterOldSpec : ChangeSpec := { name := "filterOld", fn := fun _ => fun
  | [d1, d2, d3] => { results := [.lit (.bool true)], args := [d1, d2, d3] }
  | _ => none }
def filterOldRow : OpenClaim := { program := "ytcpbfckmngbgdaadoor", sum := "da6d0fc7e13dce53546f5ea78d773280f65166f225d9900e75edbf34a1545e2e", func := "fusee/fuseelaw15.FilterOld", spec := "filterOld", inPlace := ["slices.overlaps[fusee/filter.Entry]", "internal/reflectlite.ValueOf", "(internal/reflectlite.Value).Type", "(internal/reflectlite.Value).IsNil", "internal/reflectlite.TypeOf", "(internal/reflectlite.Value).Elem", "(internal/reflectlite.Value).Set"], unfollowed := true, recurses := true, named := ["math/bits.divideError", "math/bits.overflowError", "errors.errorType"], apart := false, laid := [("errors.errorType", laid_errors_errorType)] }
def FilterOldSaid : Prop := filterOldRow.holds Tryd.pinned (OpenSpec.ofChange filterOldSpec)

/-- ITS FALSE NEIGHBOUR: 'it returns false'. Refute it at one input. -/
def filterOldWrong : ChangeSpec := { name := "filterOld", fn := fun _ => fun
  | [d1, d2, d3] => { results := [.lit (.bool false)], args := [d1, d2, d3] }
  | _ => none }
def FilterOldWrongFalsely : Prop := filterOldRow.holds Tryd.pinned (OpenSpec.ofChange filterOldWrong)

/-- 'fuseelaw22.AheadHost': WHATEVER THE INPUT: true; the input reads as it did. -/
def aheadHostSpec : ChangeSpec := { name := "aheadHost", fn := fun _ => fun
  | [d1, d2, d3] => { results := [.lit (.bool true)], args := [d1, d2, d3] }
  | _ => none }
def aheadHostRow : OpenClaim := { program := "ytcpbfckmngbgdaadoor", sum := "da6d0fc7e13dce53546f5ea78d773280f65166f225d9900e75edbf34a1545e2e", func := "fusee/fuseelaw22.AheadHost", spec := "aheadHost", inPlace := ["internal/reflectlite.ValueOf", "(internal/reflectlite.Value).Type", "(internal/reflectlite.Value).IsNil", "internal/reflectlite.TypeOf", "(internal/reflectlite.Value).Elem", "(internal/reflectlite.Value).Set"], unfollowed := true, recurses := true, named := ["math/bits.divideError", "math/bits.overflowError", "errors.errorType"], apart := false, laid := [("errors.errorType", laid_errors_errorType)] }
def AheadHostSaid : Prop := aheadHostRow.holds Tryd.pinned (OpenSpec.ofChange aheadHostSpec)

/-- ITS FALSE NEIGHBOUR: 'it returns false'. Refute it at one input. -/
def aheadHostWrong : ChangeSpec := { name := "aheadHost", fn := fun _ => fun
  | [d1, d2, d3] => { results := [.lit (.bool false)], args := [d1, d2, d3] }
  | _ => none }
def AheadHostWrongFalsely : Prop := aheadHostRow.holds Tryd.pinned (OpenSpec.ofChange aheadHostWrong)

/-- 'fuseelaw18.HostHolds': WHATEVER THE INPUT: true; the input reads as it did. -/
def hostHoldsSpec : ChangeSpec := { name := "hostHolds", fn := fun _ => fun
  | [d1, d2, d3] => { results := [.lit (.bool true)], args := [d1, d2, d3] }
  | _ => none }
def hostHoldsRow : OpenClaim := { program := "ytcpbfckmngbgdaadoor", sum := "da6d0fc7e13dce53546f5ea78d773280f65166f225d9900e75edbf34a1545e2e", func := "fusee/fuseelaw18.HostHolds", spec := "hostHolds", inPlace := ["internal/reflectlite.TypeOf", "internal/reflectlite.ValueOf", "(internal/reflectlite.Value).Type", "(internal/reflectlite.Value).IsNil", "(internal/reflectlite.Value).Elem", "(internal/reflectlite.Value).Set"], unfollowed := true, recurses := true, named := ["math/bits.divideError", "math/bits.overflowError", "errors.errorType"], apart := false, laid := [("errors.errorType", laid_errors_errorType)] }
def HostHoldsSaid : Prop := hostHoldsRow.holds Tryd.pinned (OpenSpec.ofChange hostHoldsSpec)

/-- ITS FALSE NEIGHBOUR: 'it returns false'. Refute it at one input. -/
def hostHoldsWrong : ChangeSpec := { name := "hostHolds", fn := fun _ => fun
  | [d1, d2, d3] => { results := [.lit (.bool false)], args := [d1, d2, d3] }
  | _ => none }
def HostHoldsWrongFalsely : Prop := hostHoldsRow.holds Tryd.pinned (OpenSpec.ofChange hostHoldsWrong)

/-- 'fuseelaw18.HostLater': WHATEVER THE INPUT: true; the input reads as it did. -/
def hostLaterSpec : ChangeSpec := { name := "hostLater", fn := fun _ => fun
  | [d1, d2, d3] => { results := [.lit (.bool true)], args := [d1, d2, d3] }
  | _ => none }
def hostLaterRow : OpenClaim := { program := "ytcpbfckmngbgdaadoor", sum := "da6d0fc7e13dce53546f5ea78d773280f65166f225d9900e75edbf34a1545e2e", func := "fusee/fuseelaw18.HostLater", spec := "hostLater", inPlace := ["internal/reflectlite.TypeOf", "internal/reflectlite.ValueOf", "(internal/reflectlite.Value).Type", "(internal/reflectlite.Value).IsNil", "(internal/reflectlite.Value).Elem", "(internal/reflectlite.Value).Set"], unfollowed := true, recurses := true, named := ["math/bits.divideError", "math/bits.overflowError", "errors.errorType"], apart := false, laid := [("errors.errorType", laid_errors_errorType)] }
def HostLaterSaid : Prop := hostLaterRow.holds Tryd.pinned (OpenSpec.ofChange hostLaterSpec)

/-- ITS FALSE NEIGHBOUR: 'it returns false'. Refute it at one input. -/
def hostLaterWrong : ChangeSpec := { name := "hostLater", fn := fun _ => fun
  | [d1, d2, d3] => { results := [.lit (.bool false)], args := [d1, d2, d3] }
  | _ => none }
def HostLaterWrongFalsely : Prop := hostLaterRow.holds Tryd.pinned (OpenSpec.ofChange hostLaterWrong)

/- THE SECOND FORM. 'bulk': how many values and letters a reading holds, each counted each time it is reached (what is shared counts as often as it is met; a slice's spare places count too). A statement '..UptoSaid' is the law's where the arguments, and the package variables that the reading takes, are together of bulk at most 1048576: NARROWER than '..Said'. Prove '..Said' where nothing that the law and all that it calls make is longer than what came in: it says more and counts as full. Else prove '..UptoSaid'. A law counts once. -/
mutual
def uptoBulk {H : Type} : DataW H → Nat
  | .lit (.string bytes) => bytes.length + 1
  | .lit _ => 1
  | .nil => 1
  | .ptr d => uptoBulk d + 1
  | .slice elems spare => uptoBulkAll elems + uptoBulkAll spare + 1
  | .agg parts => uptoBulkAll parts + 1
  | .iface _ d => uptoBulk d + 1
  | .map entries => uptoBulkEntries entries + 1
  | .held _ => 1
def uptoBulkAll {H : Type} : List (DataW H) → Nat
  | [] => 0
  | d :: r => uptoBulk d + uptoBulkAll r
def uptoBulkEntries {H : Type} : List (Lit × DataW H) → Nat
  | [] => 0
  | x :: r => uptoBulkEntry x + uptoBulkEntries r
def uptoBulkEntry {H : Type} : Lit × DataW H → Nat
  | (.string bytes, d) => bytes.length + uptoBulk d + 1
  | (_, d) => uptoBulk d + 1
 end
def uptoSmall : (H : Type) → List (DataW H) → Bool := fun _ ds => decide (uptoBulkAll ds ≤ 1048576)
def OpenSpec.upto (s : _root_.Go.ChangeSpec) : _root_.Go.OpenSpec := { _root_.Go.OpenSpec.ofChange s with cond := some uptoSmall }

/-- 'fuseelaw41.NtpForms', WHERE WHAT IT READS IS OF BULK AT MOST 1048576: true; the input reads as it did. -/
def ntpFormsUptoRow : OpenClaim := { program := "ytcpbfckmngbgdaadoor", sum := "da6d0fc7e13dce53546f5ea78d773280f65166f225d9900e75edbf34a1545e2e", func := "fusee/fuseelaw41.NtpForms", spec := "ntpForms", inPlace := ["internal/reflectlite.ValueOf", "(internal/reflectlite.Value).Type", "(internal/reflectlite.Value).IsNil", "internal/reflectlite.TypeOf", "(internal/reflectlite.Value).Elem", "(internal/reflectlite.Value).Set"], unfollowed := true, recurses := true, named := ["math/bits.divideError", "math/bits.overflowError", "errors.errorType"], apart := false, laid := [("errors.errorType", laid_errors_errorType)], narrowed := true }
def NtpFormsUptoSaid : Prop := ntpFormsUptoRow.holds Tryd.pinned (OpenSpec.upto ntpFormsSpec)

/-- 'fuseelaw22.AheadTells', WHERE WHAT IT READS IS OF BULK AT MOST 1048576: true; the input reads as it did. -/
def aheadTellsUptoRow : OpenClaim := { program := "ytcpbfckmngbgdaadoor", sum := "da6d0fc7e13dce53546f5ea78d773280f65166f225d9900e75edbf34a1545e2e", func := "fusee/fuseelaw22.AheadTells", spec := "aheadTells", inPlace := ["internal/reflectlite.ValueOf", "(internal/reflectlite.Value).Type", "(internal/reflectlite.Value).IsNil", "internal/reflectlite.TypeOf", "(internal/reflectlite.Value).Elem", "(internal/reflectlite.Value).Set"], unfollowed := true, recurses := true, named := ["math/bits.divideError", "math/bits.overflowError", "errors.errorType"], apart := false, laid := [("errors.errorType", laid_errors_errorType)], narrowed := true }
def AheadTellsUptoSaid : Prop := aheadTellsUptoRow.holds Tryd.pinned (OpenSpec.upto aheadTellsSpec)

/-- 'fuseelaw41.NtpAsks', WHERE WHAT IT READS IS OF BULK AT MOST 1048576: true; the input reads as it did. -/
def ntpAsksUptoRow : OpenClaim := { program := "ytcpbfckmngbgdaadoor", sum := "da6d0fc7e13dce53546f5ea78d773280f65166f225d9900e75edbf34a1545e2e", func := "fusee/fuseelaw41.NtpAsks", spec := "ntpAsks", inPlace := ["internal/reflectlite.ValueOf", "(internal/reflectlite.Value).Type", "(internal/reflectlite.Value).IsNil", "internal/reflectlite.TypeOf", "(internal/reflectlite.Value).Elem", "(internal/reflectlite.Value).Set"], unfollowed := true, recurses := true, named := ["math/bits.divideError", "math/bits.overflowError", "errors.errorType"], apart := false, laid := [("errors.errorType", laid_errors_errorType)], narrowed := true }
def NtpAsksUptoSaid : Prop := ntpAsksUptoRow.holds Tryd.pinned (OpenSpec.upto ntpAsksSpec)

/-- 'fuseelaw41.NtpHolds', WHERE WHAT IT READS IS OF BULK AT MOST 1048576: true; the input reads as it did. -/
def ntpHoldsUptoRow : OpenClaim := { program := "ytcpbfckmngbgdaadoor", sum := "da6d0fc7e13dce53546f5ea78d773280f65166f225d9900e75edbf34a1545e2e", func := "fusee/fuseelaw41.NtpHolds", spec := "ntpHolds", inPlace := ["internal/reflectlite.ValueOf", "(internal/reflectlite.Value).Type", "(internal/reflectlite.Value).IsNil", "internal/reflectlite.TypeOf", "(internal/reflectlite.Value).Elem", "(internal/reflectlite.Value).Set"], unfollowed := true, recurses := true, named := ["math/bits.divideError", "math/bits.overflowError", "errors.errorType"], apart := false, laid := [("errors.errorType", laid_errors_errorType)], narrowed := true }
def NtpHoldsUptoSaid : Prop := ntpHoldsUptoRow.holds Tryd.pinned (OpenSpec.upto ntpHoldsSpec)

/-- 'fuseelaw15.FilterTells', WHERE WHAT IT READS IS OF BULK AT MOST 1048576: true; the input reads as it did. -/
def filterTellsUptoRow : OpenClaim := { program := "ytcpbfckmngbgdaadoor", sum := "da6d0fc7e13dce53546f5ea78d773280f65166f225d9900e75edbf34a1545e2e", func := "fusee/fuseelaw15.FilterTells", spec := "filterTells", inPlace := ["slices.overlaps[fusee/filter.Entry]", "internal/reflectlite.ValueOf", "(internal/reflectlite.Value).Type", "(internal/reflectlite.Value).IsNil", "internal/reflectlite.TypeOf", "(internal/reflectlite.Value).Elem", "(internal/reflectlite.Value).Set"], unfollowed := true, recurses := true, named := ["math/bits.divideError", "math/bits.overflowError", "errors.errorType"], apart := false, laid := [("errors.errorType", laid_errors_errorType)], narrowed := true }
def FilterTellsUptoSaid : Prop := filterTellsUptoRow.holds Tryd.pinned (OpenSpec.upto filterTellsSpec)

/-- 'fuseelaw15.FilterRight', WHERE WHAT IT READS IS OF BULK AT MOST 1048576: true; the input reads as it did. -/
def filterRightUptoRow : OpenClaim := { program := "ytcpbfckmngbgdaadoor", sum := "da6d0fc7e13dce53546f5ea78d773280f65166f225d9900e75edbf34a1545e2e", func := "fusee/fuseelaw15.FilterRight", spec := "filterRight", inPlace := ["slices.overlaps[fusee/filter.Entry]", "internal/reflectlite.ValueOf", "(internal/reflectlite.Value).Type", "(internal/reflectlite.Value).IsNil", "internal/reflectlite.TypeOf", "(internal/reflectlite.Value).Elem", "(internal/reflectlite.Value).Set"], unfollowed := true, recurses := true, named := ["math/bits.divideError", "math/bits.overflowError", "errors.errorType"], apart := false, laid := [("errors.errorType", laid_errors_errorType)], narrowed := true }
def FilterRightUptoSaid : Prop := filterRightUptoRow.holds Tryd.pinned (OpenSpec.upto filterRightSpec)

/-- 'fuseelaw15.FilterOld', WHERE WHAT IT READS IS OF BULK AT MOST 1048576: true; the input reads as it did. -/
def filterOldUptoRow : OpenClaim := { program := "ytcpbfckmngbgdaadoor", sum := "da6d0fc7e13dce53546f5ea78d773280f65166f225d9900e75edbf34a1545e2e", func := "fusee/fuseelaw15.FilterOld", spec := "filterOld", inPlace := ["slices.overlaps[fusee/filter.Entry]", "internal/reflectlite.ValueOf", "(internal/reflectlite.Value).Type", "(internal/reflectlite.Value).IsNil", "internal/reflectlite.TypeOf", "(internal/reflectlite.Value).Elem", "(internal/reflectlite.Value).Set"], unfollowed := true, recurses := true, named := ["math/bits.divideError", "math/bits.overflowError", "errors.errorType"], apart := false, laid := [("errors.errorType", laid_errors_errorType)], narrowed := true }
def FilterOldUptoSaid : Prop := filterOldUptoRow.holds Tryd.pinned (OpenSpec.upto filterOldSpec)

/-- 'fuseelaw22.AheadHost', WHERE WHAT IT READS IS OF BULK AT MOST 1048576: true; the input reads as it did. -/
def aheadHostUptoRow : OpenClaim := { program := "ytcpbfckmngbgdaadoor", sum := "da6d0fc7e13dce53546f5ea78d773280f65166f225d9900e75edbf34a1545e2e", func := "fusee/fuseelaw22.AheadHost", spec := "aheadHost", inPlace := ["internal/reflectlite.ValueOf", "(internal/reflectlite.Value).Type", "(internal/reflectlite.Value).IsNil", "internal/reflectlite.TypeOf", "(internal/reflectlite.Value).Elem", "(internal/reflectlite.Value).Set"], unfollowed := true, recurses := true, named := ["math/bits.divideError", "math/bits.overflowError", "errors.errorType"], apart := false, laid := [("errors.errorType", laid_errors_errorType)], narrowed := true }
def AheadHostUptoSaid : Prop := aheadHostUptoRow.holds Tryd.pinned (OpenSpec.upto aheadHostSpec)

/-- 'fuseelaw18.HostHolds', WHERE WHAT IT READS IS OF BULK AT MOST 1048576: true; the input reads as it did. -/
def hostHoldsUptoRow : OpenClaim := { program := "ytcpbfckmngbgdaadoor", sum := "da6d0fc7e13dce53546f5ea78d773280f65166f225d9900e75edbf34a1545e2e", func := "fusee/fuseelaw18.HostHolds", spec := "hostHolds", inPlace := ["internal/reflectlite.TypeOf", "internal/reflectlite.ValueOf", "(internal/reflectlite.Value).Type", "(internal/reflectlite.Value).IsNil", "(internal/reflectlite.Value).Elem", "(internal/reflectlite.Value).Set"], unfollowed := true, recurses := true, named := ["math/bits.divideError", "math/bits.overflowError", "errors.errorType"], apart := false, laid := [("errors.errorType", laid_errors_errorType)], narrowed := true }
def HostHoldsUptoSaid : Prop := hostHoldsUptoRow.holds Tryd.pinned (OpenSpec.upto hostHoldsSpec)

/-- 'fuseelaw18.HostLater', WHERE WHAT IT READS IS OF BULK AT MOST 1048576: true; the input reads as it did. -/
def hostLaterUptoRow : OpenClaim := { program := "ytcpbfckmngbgdaadoor", sum := "da6d0fc7e13dce53546f5ea78d773280f65166f225d9900e75edbf34a1545e2e", func := "fusee/fuseelaw18.HostLater", spec := "hostLater", inPlace := ["internal/reflectlite.TypeOf", "internal/reflectlite.ValueOf", "(internal/reflectlite.Value).Type", "(internal/reflectlite.Value).IsNil", "(internal/reflectlite.Value).Elem", "(internal/reflectlite.Value).Set"], unfollowed := true, recurses := true, named := ["math/bits.divideError", "math/bits.overflowError", "errors.errorType"], apart := false, laid := [("errors.errorType", laid_errors_errorType)], narrowed := true }
def HostLaterUptoSaid : Prop := hostLaterUptoRow.holds Tryd.pinned (OpenSpec.upto hostLaterSpec)

end Rows
end Go.Proofs.YtcpbfckmngbgdaaDoor
