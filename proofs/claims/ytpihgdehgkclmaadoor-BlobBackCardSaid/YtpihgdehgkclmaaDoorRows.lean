/-
  NARROWER THAN 'FOR EVERY INPUT', by the rows' own cells (each row's printed sentence says how): FuzzTells: laid · FuzzHolds: laid · PublishSteps: laid · BlobForms: laid · BlobBack: laid · ReaderCalm: laid · PublishWrites: laid · DriftGrows: laid · DriftParts: laid · ReaderWhole: laid · SampleTells: laid · SampleHolds: laid.
  DERIVED. THE GIVEN ROWS OF THIS SEAT. 12 by the template 'for every input the law returns true; each argument reads behind the call as it read before'; 0 by the template 'total and deterministic' (their statements: YtpihgdehgkclmaaDoorTotals.lean).
  GIVEN WITH THE SEED: the statements are not yours to turn. If you find one false, say at which input.
  Laid BY PROGRAM, IN A SANDBOX (cutbox-rows.mjs): the forced cells as the released guide's own fill.sh prints them over the translation 5e649d0f546e3c5f… (all of the seat's roots in one cut). By AI agents, Wed Nov 11 2026. No macro, syntax, notation, axiom, sorry.
-/
import Derived.Test.YtpihgdehgkclmaaDoorChecked
import GoSem.Claim
import GoSem.ClaimJoined
import GoSem.ClaimMapViews
import Derived.JoinedTies
import Derived.KernelRfl
namespace Go.Proofs.YtpihgdehgkclmaaDoor
/- THE CELL 'sum', in the pinned program and in every row, IS THE sha256 OF THE DUMP (.gsa) THAT YtpihgdehgkclmaaDoorProg.lean LOADS. Nothing in Lean hashes anything: it is a label: what it is worth is what the hold of that sum in a sandbox is worth. -/
noncomputable def Tryd.pinned : Pinned := { name := "ytpihgdehgkclmaadoor", sum := "5e649d0f546e3c5fda846cdd5016692d6b8691ecaa9a90ee874b62c8f13c401b", checked := Tryd.checked }
namespace Rows
def none {H : Type} : Left H := { results := [], args := [] }

/- WHAT THE LISTED PACKAGE-LEVEL VARIABLES READ AS WHEN THE CALL BEGINS. Each datum BY PROGRAM (the guide's laid-datum.mjs) off the statement by which the dump's own 'gosem.cut.vars' lays the variable. In a bare row this is a premise. The card (YtpihgdehgkclmaaDoorCards.lean) ties it to the program's text. -/
def laid_errors_errorType {H : Type} : DataW H := .iface "internal/reflectlite.rtype" (.agg [.ptr (.lit (.string [101, 114, 114, 111, 114]))])

/-- 'fuseelaw25.FuzzTells': WHATEVER THE INPUT: true; the input reads as it did. -/
def fuzzTellsSpec : ChangeSpec := { name := "fuzzTells", fn := fun _ => fun
  | [d1, d2, d3] => { results := [.lit (.bool true)], args := [d1, d2, d3] }
  | _ => none }
def fuzzTellsRow : OpenClaim := { program := "ytpihgdehgkclmaadoor", sum := "5e649d0f546e3c5fda846cdd5016692d6b8691ecaa9a90ee874b62c8f13c401b", func := "fusee/fuseelaw25.FuzzTells", spec := "fuzzTells", inPlace := ["internal/reflectlite.ValueOf", "(internal/reflectlite.Value).Type", "(internal/reflectlite.Value).IsNil", "internal/reflectlite.TypeOf", "(internal/reflectlite.Value).Elem", "(internal/reflectlite.Value).Set"], unfollowed := true, recurses := true, named := ["errors.errorType"], apart := false, laid := [("errors.errorType", laid_errors_errorType)] }
def FuzzTellsSaid : Prop := fuzzTellsRow.holds Tryd.pinned (OpenSpec.ofChange fuzzTellsSpec)

/-- ITS FALSE NEIGHBOUR: 'it returns false'. Refute it at one input. -/
def fuzzTellsWrong : ChangeSpec := { name := "fuzzTells", fn := fun _ => fun
  | [d1, d2, d3] => { results := [.lit (.bool false)], args := [d1, d2, d3] }
  | _ => none }
def FuzzTellsWrongFalsely : Prop := fuzzTellsRow.holds Tryd.pinned (OpenSpec.ofChange fuzzTellsWrong)

/-- 'fuseelaw25.FuzzHolds': WHATEVER THE INPUT: true; the input reads as it did. -/
def fuzzHoldsSpec : ChangeSpec := { name := "fuzzHolds", fn := fun _ => fun
  | [d1, d2, d3] => { results := [.lit (.bool true)], args := [d1, d2, d3] }
  | _ => none }
def fuzzHoldsRow : OpenClaim := { program := "ytpihgdehgkclmaadoor", sum := "5e649d0f546e3c5fda846cdd5016692d6b8691ecaa9a90ee874b62c8f13c401b", func := "fusee/fuseelaw25.FuzzHolds", spec := "fuzzHolds", inPlace := ["internal/reflectlite.ValueOf", "(internal/reflectlite.Value).Type", "(internal/reflectlite.Value).IsNil", "internal/reflectlite.TypeOf", "(internal/reflectlite.Value).Elem", "(internal/reflectlite.Value).Set"], unfollowed := true, recurses := true, named := ["errors.errorType"], apart := false, laid := [("errors.errorType", laid_errors_errorType)] }
def FuzzHoldsSaid : Prop := fuzzHoldsRow.holds Tryd.pinned (OpenSpec.ofChange fuzzHoldsSpec)

/-- ITS FALSE NEIGHBOUR: 'it returns false'. Refute it at one input. -/
def fuzzHoldsWrong : ChangeSpec := { name := "fuzzHolds", fn := fun _ => fun
  | [d1, d2, d3] => { results := [.lit (.bool false)], args := [d1, d2, d3] }
  | _ => none }
def FuzzHoldsWrongFalsely : Prop := fuzzHoldsRow.holds Tryd.pinned (OpenSpec.ofChange fuzzHoldsWrong)

/-- 'fuseelaw20.PublishSteps': WHATEVER THE INPUT: true; the input reads as it did. -/
def publishStepsSpec : ChangeSpec := { name := "publishSteps", fn := fun _ => fun
  | [d1, d2, d3] => { results := [.lit (.bool true)], args := [d1, d2, d3] }
  | _ => none }
def publishStepsRow : OpenClaim := { program := "ytpihgdehgkclmaadoor", sum := "5e649d0f546e3c5fda846cdd5016692d6b8691ecaa9a90ee874b62c8f13c401b", func := "fusee/fuseelaw20.PublishSteps", spec := "publishSteps", inPlace := ["internal/reflectlite.ValueOf", "(internal/reflectlite.Value).Type", "(internal/reflectlite.Value).IsNil", "internal/reflectlite.TypeOf", "(internal/reflectlite.Value).Elem", "(internal/reflectlite.Value).Set"], unfollowed := true, recurses := true, named := ["errors.errorType"], apart := false, laid := [("errors.errorType", laid_errors_errorType)] }
def PublishStepsSaid : Prop := publishStepsRow.holds Tryd.pinned (OpenSpec.ofChange publishStepsSpec)

/-- ITS FALSE NEIGHBOUR: 'it returns false'. Refute it at one input. -/
def publishStepsWrong : ChangeSpec := { name := "publishSteps", fn := fun _ => fun
  | [d1, d2, d3] => { results := [.lit (.bool false)], args := [d1, d2, d3] }
  | _ => none }
def PublishStepsWrongFalsely : Prop := publishStepsRow.holds Tryd.pinned (OpenSpec.ofChange publishStepsWrong)

/-- 'fuseelaw06.BlobForms': WHATEVER THE INPUT: true; the input reads as it did. -/
def blobFormsSpec : ChangeSpec := { name := "blobForms", fn := fun _ => fun
  | [d1, d2, d3] => { results := [.lit (.bool true)], args := [d1, d2, d3] }
  | _ => none }
def blobFormsRow : OpenClaim := { program := "ytpihgdehgkclmaadoor", sum := "5e649d0f546e3c5fda846cdd5016692d6b8691ecaa9a90ee874b62c8f13c401b", func := "fusee/fuseelaw06.BlobForms", spec := "blobForms", inPlace := ["internal/reflectlite.ValueOf", "(internal/reflectlite.Value).Type", "(internal/reflectlite.Value).IsNil", "internal/reflectlite.TypeOf", "(internal/reflectlite.Value).Elem", "(internal/reflectlite.Value).Set"], unfollowed := true, recurses := true, named := ["errors.errorType"], apart := false, laid := [("errors.errorType", laid_errors_errorType)] }
def BlobFormsSaid : Prop := blobFormsRow.holds Tryd.pinned (OpenSpec.ofChange blobFormsSpec)

/-- ITS FALSE NEIGHBOUR: 'it returns false'. Refute it at one input. -/
def blobFormsWrong : ChangeSpec := { name := "blobForms", fn := fun _ => fun
  | [d1, d2, d3] => { results := [.lit (.bool false)], args := [d1, d2, d3] }
  | _ => none }
def BlobFormsWrongFalsely : Prop := blobFormsRow.holds Tryd.pinned (OpenSpec.ofChange blobFormsWrong)

/-- 'fuseelaw06.BlobBack': WHATEVER THE INPUT: true; the input reads as it did. -/
def blobBackSpec : ChangeSpec := { name := "blobBack", fn := fun _ => fun
  | [d1, d2, d3] => { results := [.lit (.bool true)], args := [d1, d2, d3] }
  | _ => none }
def blobBackRow : OpenClaim := { program := "ytpihgdehgkclmaadoor", sum := "5e649d0f546e3c5fda846cdd5016692d6b8691ecaa9a90ee874b62c8f13c401b", func := "fusee/fuseelaw06.BlobBack", spec := "blobBack", inPlace := ["internal/reflectlite.ValueOf", "(internal/reflectlite.Value).Type", "(internal/reflectlite.Value).IsNil", "internal/reflectlite.TypeOf", "(internal/reflectlite.Value).Elem", "(internal/reflectlite.Value).Set"], unfollowed := true, recurses := true, named := ["errors.errorType"], apart := false, laid := [("errors.errorType", laid_errors_errorType)] }
def BlobBackSaid : Prop := blobBackRow.holds Tryd.pinned (OpenSpec.ofChange blobBackSpec)

/-- ITS FALSE NEIGHBOUR: 'it returns false'. Refute it at one input. -/
def blobBackWrong : ChangeSpec := { name := "blobBack", fn := fun _ => fun
  | [d1, d2, d3] => { results := [.lit (.bool false)], args := [d1, d2, d3] }
  | _ => none }
def BlobBackWrongFalsely : Prop := blobBackRow.holds Tryd.pinned (OpenSpec.ofChange blobBackWrong)

/-- 'fuseelaw21.ReaderCalm': WHATEVER THE INPUT: true; the input reads as it did. -/
def readerCalmSpec : ChangeSpec := { name := "readerCalm", fn := fun _ => fun
  | [d] => { results := [.lit (.bool true)], args := [d] }
  | _ => none }
def readerCalmRow : OpenClaim := { program := "ytpihgdehgkclmaadoor", sum := "5e649d0f546e3c5fda846cdd5016692d6b8691ecaa9a90ee874b62c8f13c401b", func := "fusee/fuseelaw21.ReaderCalm", spec := "readerCalm", inPlace := ["internal/reflectlite.ValueOf", "(internal/reflectlite.Value).Type", "(internal/reflectlite.Value).IsNil", "internal/reflectlite.TypeOf", "(internal/reflectlite.Value).Elem", "(internal/reflectlite.Value).Set"], unfollowed := true, recurses := true, named := ["errors.errorType"], apart := false, laid := [("errors.errorType", laid_errors_errorType)] }
def ReaderCalmSaid : Prop := readerCalmRow.holds Tryd.pinned (OpenSpec.ofChange readerCalmSpec)

/-- ITS FALSE NEIGHBOUR: 'it returns false'. Refute it at one input. -/
def readerCalmWrong : ChangeSpec := { name := "readerCalm", fn := fun _ => fun
  | [d] => { results := [.lit (.bool false)], args := [d] }
  | _ => none }
def ReaderCalmWrongFalsely : Prop := readerCalmRow.holds Tryd.pinned (OpenSpec.ofChange readerCalmWrong)

/-- 'fuseelaw20.PublishWrites': WHATEVER THE INPUT: true; the input reads as it did. -/
def publishWritesSpec : ChangeSpec := { name := "publishWrites", fn := fun _ => fun
  | [d1, d2, d3] => { results := [.lit (.bool true)], args := [d1, d2, d3] }
  | _ => none }
def publishWritesRow : OpenClaim := { program := "ytpihgdehgkclmaadoor", sum := "5e649d0f546e3c5fda846cdd5016692d6b8691ecaa9a90ee874b62c8f13c401b", func := "fusee/fuseelaw20.PublishWrites", spec := "publishWrites", inPlace := ["internal/reflectlite.ValueOf", "(internal/reflectlite.Value).Type", "(internal/reflectlite.Value).IsNil", "internal/reflectlite.TypeOf", "(internal/reflectlite.Value).Elem", "(internal/reflectlite.Value).Set"], unfollowed := true, recurses := true, named := ["errors.errorType"], apart := false, laid := [("errors.errorType", laid_errors_errorType)] }
def PublishWritesSaid : Prop := publishWritesRow.holds Tryd.pinned (OpenSpec.ofChange publishWritesSpec)

/-- ITS FALSE NEIGHBOUR: 'it returns false'. Refute it at one input. -/
def publishWritesWrong : ChangeSpec := { name := "publishWrites", fn := fun _ => fun
  | [d1, d2, d3] => { results := [.lit (.bool false)], args := [d1, d2, d3] }
  | _ => none }
def PublishWritesWrongFalsely : Prop := publishWritesRow.holds Tryd.pinned (OpenSpec.ofChange publishWritesWrong)

/-- 'fuseelaw17.DriftGrows': WHATEVER THE INPUT: true; the input reads as it did. -/
def driftGrowsSpec : ChangeSpec := { name := "driftGrows", fn := fun _ => fun
  | [d1, d2, d3] => { results := [.lit (.bool true)], args := [d1, d2, d3] }
  | _ => none }
def driftGrowsRow : OpenClaim := { program := "ytpihgdehgkclmaadoor", sum := "5e649d0f546e3c5fda846cdd5016692d6b8691ecaa9a90ee874b62c8f13c401b", func := "fusee/fuseelaw17.DriftGrows", spec := "driftGrows", inPlace := ["internal/reflectlite.ValueOf", "(internal/reflectlite.Value).Type", "(internal/reflectlite.Value).IsNil", "internal/reflectlite.TypeOf", "(internal/reflectlite.Value).Elem", "(internal/reflectlite.Value).Set"], unfollowed := true, recurses := true, named := ["math/bits.divideError", "math/bits.overflowError", "errors.errorType"], apart := false, laid := [("errors.errorType", laid_errors_errorType)] }
def DriftGrowsSaid : Prop := driftGrowsRow.holds Tryd.pinned (OpenSpec.ofChange driftGrowsSpec)

/-- ITS FALSE NEIGHBOUR: 'it returns false'. Refute it at one input. -/
def driftGrowsWrong : ChangeSpec := { name := "driftGrows", fn := fun _ => fun
  | [d1, d2, d3] => { results := [.lit (.bool false)], args := [d1, d2, d3] }
  | _ => none }
def DriftGrowsWrongFalsely : Prop := driftGrowsRow.holds Tryd.pinned (OpenSpec.ofChange driftGrowsWrong)

/-- 'fuseelaw17.DriftParts': WHATEVER THE INPUT: true; the input reads as it did. -/
def driftPartsSpec : ChangeSpec := { name := "driftParts", fn := fun _ => fun
  | [d1, d2, d3] => { results := [.lit (.bool true)], args := [d1, d2, d3] }
  | _ => none }
def driftPartsRow : OpenClaim := { program := "ytpihgdehgkclmaadoor", sum := "5e649d0f546e3c5fda846cdd5016692d6b8691ecaa9a90ee874b62c8f13c401b", func := "fusee/fuseelaw17.DriftParts", spec := "driftParts", inPlace := ["internal/reflectlite.ValueOf", "(internal/reflectlite.Value).Type", "(internal/reflectlite.Value).IsNil", "internal/reflectlite.TypeOf", "(internal/reflectlite.Value).Elem", "(internal/reflectlite.Value).Set"], unfollowed := true, recurses := true, named := ["math/bits.divideError", "math/bits.overflowError", "errors.errorType"], apart := false, laid := [("errors.errorType", laid_errors_errorType)] }
def DriftPartsSaid : Prop := driftPartsRow.holds Tryd.pinned (OpenSpec.ofChange driftPartsSpec)

/-- ITS FALSE NEIGHBOUR: 'it returns false'. Refute it at one input. -/
def driftPartsWrong : ChangeSpec := { name := "driftParts", fn := fun _ => fun
  | [d1, d2, d3] => { results := [.lit (.bool false)], args := [d1, d2, d3] }
  | _ => none }
def DriftPartsWrongFalsely : Prop := driftPartsRow.holds Tryd.pinned (OpenSpec.ofChange driftPartsWrong)

/-- 'fuseelaw21.ReaderWhole': WHATEVER THE INPUT: true; the input reads as it did. -/
def readerWholeSpec : ChangeSpec := { name := "readerWhole", fn := fun _ => fun
  | [d1, d2] => { results := [.lit (.bool true)], args := [d1, d2] }
  | _ => none }
def readerWholeRow : OpenClaim := { program := "ytpihgdehgkclmaadoor", sum := "5e649d0f546e3c5fda846cdd5016692d6b8691ecaa9a90ee874b62c8f13c401b", func := "fusee/fuseelaw21.ReaderWhole", spec := "readerWhole", inPlace := ["internal/reflectlite.ValueOf", "(internal/reflectlite.Value).Type", "(internal/reflectlite.Value).IsNil", "internal/reflectlite.TypeOf", "(internal/reflectlite.Value).Elem", "(internal/reflectlite.Value).Set"], unfollowed := true, recurses := true, named := ["errors.errorType"], apart := false, laid := [("errors.errorType", laid_errors_errorType)] }
def ReaderWholeSaid : Prop := readerWholeRow.holds Tryd.pinned (OpenSpec.ofChange readerWholeSpec)

/-- ITS FALSE NEIGHBOUR: 'it returns false'. Refute it at one input. -/
def readerWholeWrong : ChangeSpec := { name := "readerWhole", fn := fun _ => fun
  | [d1, d2] => { results := [.lit (.bool false)], args := [d1, d2] }
  | _ => none }
def ReaderWholeWrongFalsely : Prop := readerWholeRow.holds Tryd.pinned (OpenSpec.ofChange readerWholeWrong)

/-- 'fuseelaw14.SampleTells': WHATEVER THE INPUT: true; the input reads as it did. -/
def sampleTellsSpec : ChangeSpec := { name := "sampleTells", fn := fun _ => fun
  | [d1, d2, d3] => { results := [.lit (.bool true)], args := [d1, d2, d3] }
  | _ => none }
def sampleTellsRow : OpenClaim := { program := "ytpihgdehgkclmaadoor", sum := "5e649d0f546e3c5fda846cdd5016692d6b8691ecaa9a90ee874b62c8f13c401b", func := "fusee/fuseelaw14.SampleTells", spec := "sampleTells", inPlace := ["internal/reflectlite.ValueOf", "(internal/reflectlite.Value).Type", "(internal/reflectlite.Value).IsNil", "internal/reflectlite.TypeOf", "(internal/reflectlite.Value).Elem", "(internal/reflectlite.Value).Set"], unfollowed := true, recurses := true, named := ["math/bits.divideError", "math/bits.overflowError", "errors.errorType"], apart := false, laid := [("errors.errorType", laid_errors_errorType)] }
def SampleTellsSaid : Prop := sampleTellsRow.holds Tryd.pinned (OpenSpec.ofChange sampleTellsSpec)

/-- ITS FALSE NEIGHBOUR: 'it returns false'. Refute it at one input. -/
def sampleTellsWrong : ChangeSpec := { name := "sampleTells", fn := fun _ => fun
  | [d1, d2, d3] => { results := [.lit (.bool false)], args := [d1, d2, d3] }
  | _ => none }
def SampleTellsWrongFalsely : Prop := sampleTellsRow.holds Tryd.pinned (OpenSpec.ofChange sampleTellsWrong)

/-- 'fuseelaw14.SampleHolds': WHATEVER THE INPUT: true; the input reads as it did. -/
def sampleHoldsSpec : ChangeSpec := { name := "sampleHolds", fn := fun _ => fun
  | [d1, d2, d3] => { results := [.lit (.bool true)], args := [d1, d2, d3] }
  | _ => none }
def sampleHoldsRow : OpenClaim := { program := "ytpihgdehgkclmaadoor", sum := "5e649d0f546e3c5fda846cdd5016692d6b8691ecaa9a90ee874b62c8f13c401b", func := "fusee/fuseelaw14.SampleHolds", spec := "sampleHolds", inPlace := ["internal/reflectlite.ValueOf", "(internal/reflectlite.Value).Type", "(internal/reflectlite.Value).IsNil", "internal/reflectlite.TypeOf", "(internal/reflectlite.Value).Elem", "(internal/reflectlite.Value).Set"], unfollowed := true, recurses := true, named := ["math/bits.divideError", "math/bits.overflowError", "errors.errorType"], apart := false, laid := [("errors.errorType", laid_errors_errorType)] }
def SampleHoldsSaid : Prop := sampleHoldsRow.holds Tryd.pinned (OpenSpec.ofChange sampleHoldsSpec)

/-- ITS FALSE NEIGHBOUR: 'it returns false'. Refute it at one input. -/
def sampleHoldsWrong : ChangeSpec := { name := "sampleHolds", fn := fun _ => fun
  | [d1, d2, d3] => { results := [.lit (.bool false)], args := [d1, d2, d3] }
  | _ => none }
def SampleHoldsWrongFalsely : Prop := sampleHoldsRow.holds Tryd.pinned (OpenSpec.ofChange sampleHoldsWrong)

/- THE SECOND FORM. 'bulk': how many values and letters a reading holds, each counted each time it is reached (what is shared counts as often as it is met; a slice's spare places count too). A statement '..UptoSaid' is the law's where the arguments, and the package variables that the reading takes, are together of bulk at most 1048576: NARROWER than '..Said'. Prove '..Said' where nothing that the law and all that it calls make is longer than what came in: it says more and counts as full. Else prove '..UptoSaid'. A law counts once. -/
mutual
def uptoBulk {H : Type} : DataW H → Nat
  | .lit (.string bytes) => bytes.length + 1
  | .lit _ => 1
  | .nil => 1
  | .ptr d => uptoBulk d + 1
  | .slice elems spare => uptoBulkAll elems + uptoBulkAll spare + 1
  | .agg parts => uptoBulkAll parts + 1
  | .iface _ d => uptoBulk d + 1
  | .map entries => uptoBulkEntries entries + 1
  | .held _ => 1
def uptoBulkAll {H : Type} : List (DataW H) → Nat
  | [] => 0
  | d :: r => uptoBulk d + uptoBulkAll r
def uptoBulkEntries {H : Type} : List (Lit × DataW H) → Nat
  | [] => 0
  | x :: r => uptoBulkEntry x + uptoBulkEntries r
def uptoBulkEntry {H : Type} : Lit × DataW H → Nat
  | (.string bytes, d) => bytes.length + uptoBulk d + 1
  | (_, d) => uptoBulk d + 1
 end
def uptoSmall : (H : Type) → List (DataW H) → Bool := fun _ ds => decide (uptoBulkAll ds ≤ 1048576)
def OpenSpec.upto (s : _root_.Go.ChangeSpec) : _root_.Go.OpenSpec := { _root_.Go.OpenSpec.ofChange s with cond := some uptoSmall }

/-- 'fuseelaw25.FuzzTells', WHERE WHAT IT READS IS OF BULK AT MOST 1048576: true; the input reads as it did. -/
def fuzzTellsUptoRow : OpenClaim := { program := "ytpihgdehgkclmaadoor", sum := "5e649d0f546e3c5fda846cdd5016692d6b8691ecaa9a90ee874b62c8f13c401b", func := "fusee/fuseelaw25.FuzzTells", spec := "fuzzTells", inPlace := ["internal/reflectlite.ValueOf", "(internal/reflectlite.Value).Type", "(internal/reflectlite.Value).IsNil", "internal/reflectlite.TypeOf", "(internal/reflectlite.Value).Elem", "(internal/reflectlite.Value).Set"], unfollowed := true, recurses := true, named := ["errors.errorType"], apart := false, laid := [("errors.errorType", laid_errors_errorType)], narrowed := true }
def FuzzTellsUptoSaid : Prop := fuzzTellsUptoRow.holds Tryd.pinned (OpenSpec.upto fuzzTellsSpec)

/-- 'fuseelaw25.FuzzHolds', WHERE WHAT IT READS IS OF BULK AT MOST 1048576: true; the input reads as it did. -/
def fuzzHoldsUptoRow : OpenClaim := { program := "ytpihgdehgkclmaadoor", sum := "5e649d0f546e3c5fda846cdd5016692d6b8691ecaa9a90ee874b62c8f13c401b", func := "fusee/fuseelaw25.FuzzHolds", spec := "fuzzHolds", inPlace := ["internal/reflectlite.ValueOf", "(internal/reflectlite.Value).Type", "(internal/reflectlite.Value).IsNil", "internal/reflectlite.TypeOf", "(internal/reflectlite.Value).Elem", "(internal/reflectlite.Value).Set"], unfollowed := true, recurses := true, named := ["errors.errorType"], apart := false, laid := [("errors.errorType", laid_errors_errorType)], narrowed := true }
def FuzzHoldsUptoSaid : Prop := fuzzHoldsUptoRow.holds Tryd.pinned (OpenSpec.upto fuzzHoldsSpec)

/-- 'fuseelaw20.PublishSteps', WHERE WHAT IT READS IS OF BULK AT MOST 1048576: true; the input reads as it did. -/
def publishStepsUptoRow : OpenClaim := { program := "ytpihgdehgkclmaadoor", sum := "5e649d0f546e3c5fda846cdd5016692d6b8691ecaa9a90ee874b62c8f13c401b", func := "fusee/fuseelaw20.PublishSteps", spec := "publishSteps", inPlace := ["internal/reflectlite.ValueOf", "(internal/reflectlite.Value).Type", "(internal/reflectlite.Value).IsNil", "internal/reflectlite.TypeOf", "(internal/reflectlite.Value).Elem", "(internal/reflectlite.Value).Set"], unfollowed := true, recurses := true, named := ["errors.errorType"], apart := false, laid := [("errors.errorType", laid_errors_errorType)], narrowed := true }
def PublishStepsUptoSaid : Prop := publishStepsUptoRow.holds Tryd.pinned (OpenSpec.upto publishStepsSpec)

/-- 'fuseelaw06.BlobForms', WHERE WHAT IT READS IS OF BULK AT MOST 1048576: true; the input reads as it did. -/
def blobFormsUptoRow : OpenClaim := { program := "ytpihgdehgkclmaadoor", sum := "5e649d0f546e3c5fda846cdd5016692d6b8691ecaa9a90ee874b62c8f13c401b", func := "fusee/fuseelaw06.BlobForms", spec := "blobForms", inPlace := ["internal/reflectlite.ValueOf", "(internal/reflectlite.Value).Type", "(internal/reflectlite.Value).IsNil", "internal/reflectlite.TypeOf", "(internal/reflectlite.Value).Elem", "(internal/reflectlite.Value).Set"], unfollowed := true, recurses := true, named := ["errors.errorType"], apart := false, laid := [("errors.errorType", laid_errors_errorType)], narrowed := true }
def BlobFormsUptoSaid : Prop := blobFormsUptoRow.holds Tryd.pinned (OpenSpec.upto blobFormsSpec)

/-- 'fuseelaw06.BlobBack', WHERE WHAT IT READS IS OF BULK AT MOST 1048576: true; the input reads as it did. -/
def blobBackUptoRow : OpenClaim := { program := "ytpihgdehgkclmaadoor", sum := "5e649d0f546e3c5fda846cdd5016692d6b8691ecaa9a90ee874b62c8f13c401b", func := "fusee/fuseelaw06.BlobBack", spec := "blobBack", inPlace := ["internal/reflectlite.ValueOf", "(internal/reflectlite.Value).Type", "(internal/reflectlite.Value).IsNil", "internal/reflectlite.TypeOf", "(internal/reflectlite.Value).Elem", "(internal/reflectlite.Value).Set"], unfollowed := true, recurses := true, named := ["errors.errorType"], apart := false, laid := [("errors.errorType", laid_errors_errorType)], narrowed := true }
def BlobBackUptoSaid : Prop := blobBackUptoRow.holds Tryd.pinned (OpenSpec.upto blobBackSpec)

/-- 'fuseelaw21.ReaderCalm', WHERE WHAT IT READS IS OF BULK AT MOST 1048576: true; the input reads as it did. -/
def readerCalmUptoRow : OpenClaim := { program := "ytpihgdehgkclmaadoor", sum := "5e649d0f546e3c5fda846cdd5016692d6b8691ecaa9a90ee874b62c8f13c401b", func := "fusee/fuseelaw21.ReaderCalm", spec := "readerCalm", inPlace := ["internal/reflectlite.ValueOf", "(internal/reflectlite.Value).Type", "(internal/reflectlite.Value).IsNil", "internal/reflectlite.TypeOf", "(internal/reflectlite.Value).Elem", "(internal/reflectlite.Value).Set"], unfollowed := true, recurses := true, named := ["errors.errorType"], apart := false, laid := [("errors.errorType", laid_errors_errorType)], narrowed := true }
def ReaderCalmUptoSaid : Prop := readerCalmUptoRow.holds Tryd.pinned (OpenSpec.upto readerCalmSpec)

/-- 'fuseelaw20.PublishWrites', WHERE WHAT IT READS IS OF BULK AT MOST 1048576: true; the input reads as it did. -/
def publishWritesUptoRow : OpenClaim := { program := "ytpihgdehgkclmaadoor", sum := "5e649d0f546e3c5fda846cdd5016692d6b8691ecaa9a90ee874b62c8f13c401b", func := "fusee/fuseelaw20.PublishWrites", spec := "publishWrites", inPlace := ["internal/reflectlite.ValueOf", "(internal/reflectlite.Value).Type", "(internal/reflectlite.Value).IsNil", "internal/reflectlite.TypeOf", "(internal/reflectlite.Value).Elem", "(internal/reflectlite.Value).Set"], unfollowed := true, recurses := true, named := ["errors.errorType"], apart := false, laid := [("errors.errorType", laid_errors_errorType)], narrowed := true }
def PublishWritesUptoSaid : Prop := publishWritesUptoRow.holds Tryd.pinned (OpenSpec.upto publishWritesSpec)

/-- 'fuseelaw17.DriftGrows', WHERE WHAT IT READS IS OF BULK AT MOST 1048576: true; the input reads as it did. -/
def driftGrowsUptoRow : OpenClaim := { program := "ytpihgdehgkclmaadoor", sum := "5e649d0f546e3c5fda846cdd5016692d6b8691ecaa9a90ee874b62c8f13c401b", func := "fusee/fuseelaw17.DriftGrows", spec := "driftGrows", inPlace := ["internal/reflectlite.ValueOf", "(internal/reflectlite.Value).Type", "(internal/reflectlite.Value).IsNil", "internal/reflectlite.TypeOf", "(internal/reflectlite.Value).Elem", "(internal/reflectlite.Value).Set"], unfollowed := true, recurses := true, named := ["math/bits.divideError", "math/bits.overflowError", "errors.errorType"], apart := false, laid := [("errors.errorType", laid_errors_errorType)], narrowed := true }
def DriftGrowsUptoSaid : Prop := driftGrowsUptoRow.holds Tryd.pinned (OpenSpec.upto driftGrowsSpec)

/-- 'fuseelaw17.DriftParts', WHERE WHAT IT READS IS OF BULK AT MOST 1048576: true; the input reads as it did. -/
def driftPartsUptoRow : OpenClaim := { program := "ytpihgdehgkclmaadoor", sum := "5e649d0f546e3c5fda846cdd5016692d6b8691ecaa9a90ee874b62c8f13c401b", func := "fusee/fuseelaw17.DriftParts", spec := "driftParts", inPlace := ["internal/reflectlite.ValueOf", "(internal/reflectlite.Value).Type", "(internal/reflectlite.Value).IsNil", "internal/reflectlite.TypeOf", "(internal/reflectlite.Value).Elem", "(internal/reflectlite.Value).Set"], unfollowed := true, recurses := true, named := ["math/bits.divideError", "math/bits.overflowError", "errors.errorType"], apart := false, laid := [("errors.errorType", laid_errors_errorType)], narrowed := true }
def DriftPartsUptoSaid : Prop := driftPartsUptoRow.holds Tryd.pinned (OpenSpec.upto driftPartsSpec)

/-- 'fuseelaw21.ReaderWhole', WHERE WHAT IT READS IS OF BULK AT MOST 1048576: true; the input reads as it did. -/
def readerWholeUptoRow : OpenClaim := { program := "ytpihgdehgkclmaadoor", sum := "5e649d0f546e3c5fda846cdd5016692d6b8691ecaa9a90ee874b62c8f13c401b", func := "fusee/fuseelaw21.ReaderWhole", spec := "readerWhole", inPlace := ["internal/reflectlite.ValueOf", "(internal/reflectlite.Value).Type", "(internal/reflectlite.Value).IsNil", "internal/reflectlite.TypeOf", "(internal/reflectlite.Value).Elem", "(internal/reflectlite.Value).Set"], unfollowed := true, recurses := true, named := ["errors.errorType"], apart := false, laid := [("errors.errorType", laid_errors_errorType)], narrowed := true }
def ReaderWholeUptoSaid : Prop := readerWholeUptoRow.holds Tryd.pinned (OpenSpec.upto readerWholeSpec)

/-- 'fuseelaw14.SampleTells', WHERE WHAT IT READS IS OF BULK AT MOST 1048576: true; the input reads as it did. -/
def sampleTellsUptoRow : OpenClaim := { program := "ytpihgdehgkclmaadoor", sum := "5e649d0f546e3c5fda846cdd5016692d6b8691ecaa9a90ee874b62c8f13c401b", func := "fusee/fuseelaw14.SampleTells", spec := "sampleTells", inPlace := ["internal/reflectlite.ValueOf", "(internal/reflectlite.Value).Type", "(internal/reflectlite.Value).IsNil", "internal/reflectlite.TypeOf", "(internal/reflectlite.Value).Elem", "(internal/reflectlite.Value).Set"], unfollowed := true, recurses := true, named := ["math/bits.divideError", "math/bits.overflowError", "errors.errorType"], apart := false, laid := [("errors.errorType", laid_errors_errorType)], narrowed := true }
def SampleTellsUptoSaid : Prop := sampleTellsUptoRow.holds Tryd.pinned (OpenSpec.upto sampleTellsSpec)

/-- 'fuseelaw14.SampleHolds', WHERE WHAT IT READS IS OF BULK AT MOST 1048576: true; the input reads as it did. -/
def sampleHoldsUptoRow : OpenClaim := { program := "ytpihgdehgkclmaadoor", sum := "5e649d0f546e3c5fda846cdd5016692d6b8691ecaa9a90ee874b62c8f13c401b", func := "fusee/fuseelaw14.SampleHolds", spec := "sampleHolds", inPlace := ["internal/reflectlite.ValueOf", "(internal/reflectlite.Value).Type", "(internal/reflectlite.Value).IsNil", "internal/reflectlite.TypeOf", "(internal/reflectlite.Value).Elem", "(internal/reflectlite.Value).Set"], unfollowed := true, recurses := true, named := ["math/bits.divideError", "math/bits.overflowError", "errors.errorType"], apart := false, laid := [("errors.errorType", laid_errors_errorType)], narrowed := true }
def SampleHoldsUptoSaid : Prop := sampleHoldsUptoRow.holds Tryd.pinned (OpenSpec.upto sampleHoldsSpec)

end Rows
end Go.Proofs.YtpihgdehgkclmaaDoor
