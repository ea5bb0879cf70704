/-
  NARROWER THAN 'FOR EVERY INPUT', by the rows' own cells (each row's printed sentence says how): ServoSteps: laid · ServoHolds: laid · ServoSlews: laid · CrcSums: laid · CrcFinds: laid · SpanVotes: laid · SpanMost: laid · PauseTells: laid · PauseHolds: laid · PauseLost: laid · SpanSteps: laid · SpanMeets: laid.
  DERIVED. THE GIVEN ROWS OF THIS SEAT. 12 by the template 'for every input the law returns true; each argument reads behind the call as it read before'; 0 by the template 'total and deterministic' (their statements: YtfipgpfmlkfkfaaDoorTotals.lean).
  GIVEN WITH THE SEED: the statements are not yours to turn. If you find one false, say at which input.
  Laid BY PROGRAM, IN A SANDBOX (cutbox-rows.mjs): the forced cells as the released guide's own fill.sh prints them over the translation d3d9607ceaa963bf… (all of the seat's roots in one cut). By AI agents, Wed Nov 11 2026. No macro, syntax, notation, axiom, sorry.
-/
import Derived.Test.YtfipgpfmlkfkfaaDoorChecked
import GoSem.Claim
import GoSem.ClaimJoined
import GoSem.ClaimMapViews
import Derived.JoinedTies
import Derived.KernelRfl
namespace Go.Proofs.YtfipgpfmlkfkfaaDoor
/- THE CELL 'sum', in the pinned program and in every row, IS THE sha256 OF THE DUMP (.gsa) THAT YtfipgpfmlkfkfaaDoorProg.lean LOADS. Nothing in Lean hashes anything: it is a label: what it is worth is what the hold of that sum in a sandbox is worth. -/
noncomputable def Tryd.pinned : Pinned := { name := "ytfipgpfmlkfkfaadoor", sum := "d3d9607ceaa963bf4e1f7919a1c8091b8869058cf5516512e131a0710c0d6126", checked := Tryd.checked }
namespace Rows
def none {H : Type} : Left H := { results := [], args := [] }

/- WHAT THE LISTED PACKAGE-LEVEL VARIABLES READ AS WHEN THE CALL BEGINS. Each datum BY PROGRAM (the guide's laid-datum.mjs) off the statement by which the dump's own 'gosem.cut.vars' lays the variable. In a bare row this is a premise. The card (YtfipgpfmlkfkfaaDoorCards.lean) ties it to the program's text. -/
def laid_errors_errorType {H : Type} : DataW H := .iface "internal/reflectlite.rtype" (.agg [.ptr (.lit (.string [101, 114, 114, 111, 114]))])

/-- 'fuseelaw16.ServoSteps': WHATEVER THE INPUT: true; the input reads as it did. -/
def servoStepsSpec : ChangeSpec := { name := "servoSteps", fn := fun _ => fun
  | [d1, d2, d3] => { results := [.lit (.bool true)], args := [d1, d2, d3] }
  | _ => none }
def servoStepsRow : OpenClaim := { program := "ytfipgpfmlkfkfaadoor", sum := "d3d9607ceaa963bf4e1f7919a1c8091b8869058cf5516512e131a0710c0d6126", func := "fusee/fuseelaw16.ServoSteps", spec := "servoSteps", inPlace := ["internal/reflectlite.ValueOf", "(internal/reflectlite.Value).Type", "(internal/reflectlite.Value).IsNil", "internal/reflectlite.TypeOf", "(internal/reflectlite.Value).Elem", "(internal/reflectlite.Value).Set"], unfollowed := true, recurses := true, named := ["errors.errorType"], apart := false, laid := [("errors.errorType", laid_errors_errorType)] }
def ServoStepsSaid : Prop := servoStepsRow.holds Tryd.pinned (OpenSpec.ofChange servoStepsSpec)

/-- ITS FALSE NEIGHBOUR: 'it returns false'. Refute it at one input. -/
def servoStepsWrong : ChangeSpec := { name := "servoSteps", fn := fun _ => fun
  | [d1, d2, d3] => { results := [.lit (.bool false)], args := [d1, d2, d3] }
  | _ => none }
def ServoStepsWrongFalsely : Prop := servoStepsRow.holds Tryd.pinned (OpenSpec.ofChange servoStepsWrong)

/-- 'fuseelaw16.ServoHolds': WHATEVER THE INPUT: true; the input reads as it did. -/
def servoHoldsSpec : ChangeSpec := { name := "servoHolds", fn := fun _ => fun
  | [d1, d2, d3] => { results := [.lit (.bool true)], args := [d1, d2, d3] }
  | _ => none }
def servoHoldsRow : OpenClaim := { program := "ytfipgpfmlkfkfaadoor", sum := "d3d9607ceaa963bf4e1f7919a1c8091b8869058cf5516512e131a0710c0d6126", func := "fusee/fuseelaw16.ServoHolds", spec := "servoHolds", inPlace := ["internal/reflectlite.ValueOf", "(internal/reflectlite.Value).Type", "(internal/reflectlite.Value).IsNil", "internal/reflectlite.TypeOf", "(internal/reflectlite.Value).Elem", "(internal/reflectlite.Value).Set"], unfollowed := true, recurses := true, named := ["errors.errorType"], apart := false, laid := [("errors.errorType", laid_errors_errorType)] }
def ServoHoldsSaid : Prop := servoHoldsRow.holds Tryd.pinned (OpenSpec.ofChange servoHoldsSpec)

/-- ITS FALSE NEIGHBOUR: 'it returns false'. Refute it at one input. -/
def servoHoldsWrong : ChangeSpec := { name := "servoHolds", fn := fun _ => fun
  | [d1, d2, d3] => { results := [.lit (.bool false)], args := [d1, d2, d3] }
  | _ => none }
def ServoHoldsWrongFalsely : Prop := servoHoldsRow.holds Tryd.pinned (OpenSpec.ofChange servoHoldsWrong)

/-- 'fuseelaw16.ServoSlews': WHATEVER THE INPUT: true; the input reads as it did. -/
def servoSlewsSpec : ChangeSpec := { name := "servoSlews", fn := fun _ => fun
  | [d1, d2] => { results := [.lit (.bool true)], args := [d1, d2] }
  | _ => none }
def servoSlewsRow : OpenClaim := { program := "ytfipgpfmlkfkfaadoor", sum := "d3d9607ceaa963bf4e1f7919a1c8091b8869058cf5516512e131a0710c0d6126", func := "fusee/fuseelaw16.ServoSlews", spec := "servoSlews", inPlace := ["internal/reflectlite.ValueOf", "(internal/reflectlite.Value).Type", "(internal/reflectlite.Value).IsNil", "internal/reflectlite.TypeOf", "(internal/reflectlite.Value).Elem", "(internal/reflectlite.Value).Set"], unfollowed := true, recurses := true, named := ["errors.errorType"], apart := false, laid := [("errors.errorType", laid_errors_errorType)] }
def ServoSlewsSaid : Prop := servoSlewsRow.holds Tryd.pinned (OpenSpec.ofChange servoSlewsSpec)

/-- ITS FALSE NEIGHBOUR: 'it returns false'. Refute it at one input. -/
def servoSlewsWrong : ChangeSpec := { name := "servoSlews", fn := fun _ => fun
  | [d1, d2] => { results := [.lit (.bool false)], args := [d1, d2] }
  | _ => none }
def ServoSlewsWrongFalsely : Prop := servoSlewsRow.holds Tryd.pinned (OpenSpec.ofChange servoSlewsWrong)

/-- 'fuseelaw04.CrcSums': WHATEVER THE INPUT: true; the input reads as it did. -/
def crcSumsSpec : ChangeSpec := { name := "crcSums", fn := fun _ => fun
  | [d1, d2] => { results := [.lit (.bool true)], args := [d1, d2] }
  | _ => none }
def crcSumsRow : OpenClaim := { program := "ytfipgpfmlkfkfaadoor", sum := "d3d9607ceaa963bf4e1f7919a1c8091b8869058cf5516512e131a0710c0d6126", func := "fusee/fuseelaw04.CrcSums", spec := "crcSums", inPlace := ["internal/reflectlite.ValueOf", "(internal/reflectlite.Value).Type", "(internal/reflectlite.Value).IsNil", "internal/reflectlite.TypeOf", "(internal/reflectlite.Value).Elem", "(internal/reflectlite.Value).Set"], unfollowed := true, recurses := true, named := ["errors.errorType"], apart := false, laid := [("errors.errorType", laid_errors_errorType)] }
def CrcSumsSaid : Prop := crcSumsRow.holds Tryd.pinned (OpenSpec.ofChange crcSumsSpec)

/-- ITS FALSE NEIGHBOUR: 'it returns false'. Refute it at one input. -/
def crcSumsWrong : ChangeSpec := { name := "crcSums", fn := fun _ => fun
  | [d1, d2] => { results := [.lit (.bool false)], args := [d1, d2] }
  | _ => none }
def CrcSumsWrongFalsely : Prop := crcSumsRow.holds Tryd.pinned (OpenSpec.ofChange crcSumsWrong)

/-- 'fuseelaw04.CrcFinds': WHATEVER THE INPUT: true; the input reads as it did. -/
def crcFindsSpec : ChangeSpec := { name := "crcFinds", fn := fun _ => fun
  | [d1, d2, d3] => { results := [.lit (.bool true)], args := [d1, d2, d3] }
  | _ => none }
def crcFindsRow : OpenClaim := { program := "ytfipgpfmlkfkfaadoor", sum := "d3d9607ceaa963bf4e1f7919a1c8091b8869058cf5516512e131a0710c0d6126", func := "fusee/fuseelaw04.CrcFinds", spec := "crcFinds", inPlace := ["internal/reflectlite.ValueOf", "(internal/reflectlite.Value).Type", "(internal/reflectlite.Value).IsNil", "internal/reflectlite.TypeOf", "(internal/reflectlite.Value).Elem", "(internal/reflectlite.Value).Set"], unfollowed := true, recurses := true, named := ["errors.errorType"], apart := false, laid := [("errors.errorType", laid_errors_errorType)] }
def CrcFindsSaid : Prop := crcFindsRow.holds Tryd.pinned (OpenSpec.ofChange crcFindsSpec)

/-- ITS FALSE NEIGHBOUR: 'it returns false'. Refute it at one input. -/
def crcFindsWrong : ChangeSpec := { name := "crcFinds", fn := fun _ => fun
  | [d1, d2, d3] => { results := [.lit (.bool false)], args := [d1, d2, d3] }
  | _ => none }
def CrcFindsWrongFalsely : Prop := crcFindsRow.holds Tryd.pinned (OpenSpec.ofChange crcFindsWrong)

/-- 'fuseelaw13.SpanVotes': WHATEVER THE INPUT: true; the input reads as it did. -/
def spanVotesSpec : ChangeSpec := { name := "spanVotes", fn := fun _ => fun
  | [d] => { results := [.lit (.bool true)], args := [d] }
  | _ => none }
def spanVotesRow : OpenClaim := { program := "ytfipgpfmlkfkfaadoor", sum := "d3d9607ceaa963bf4e1f7919a1c8091b8869058cf5516512e131a0710c0d6126", func := "fusee/fuseelaw13.SpanVotes", spec := "spanVotes", inPlace := ["internal/reflectlite.ValueOf", "(internal/reflectlite.Value).Type", "(internal/reflectlite.Value).IsNil", "internal/reflectlite.TypeOf", "(internal/reflectlite.Value).Elem", "(internal/reflectlite.Value).Set"], unfollowed := true, recurses := true, named := ["errors.errorType"], apart := false, laid := [("errors.errorType", laid_errors_errorType)] }
def SpanVotesSaid : Prop := spanVotesRow.holds Tryd.pinned (OpenSpec.ofChange spanVotesSpec)

/-- ITS FALSE NEIGHBOUR: 'it returns false'. Refute it at one input. -/
def spanVotesWrong : ChangeSpec := { name := "spanVotes", fn := fun _ => fun
  | [d] => { results := [.lit (.bool false)], args := [d] }
  | _ => none }
def SpanVotesWrongFalsely : Prop := spanVotesRow.holds Tryd.pinned (OpenSpec.ofChange spanVotesWrong)

/-- 'fuseelaw13.SpanMost': WHATEVER THE INPUT: true; the input reads as it did. -/
def spanMostSpec : ChangeSpec := { name := "spanMost", fn := fun _ => fun
  | [d1, d2, d3] => { results := [.lit (.bool true)], args := [d1, d2, d3] }
  | _ => none }
def spanMostRow : OpenClaim := { program := "ytfipgpfmlkfkfaadoor", sum := "d3d9607ceaa963bf4e1f7919a1c8091b8869058cf5516512e131a0710c0d6126", func := "fusee/fuseelaw13.SpanMost", spec := "spanMost", inPlace := ["internal/reflectlite.ValueOf", "(internal/reflectlite.Value).Type", "(internal/reflectlite.Value).IsNil", "internal/reflectlite.TypeOf", "(internal/reflectlite.Value).Elem", "(internal/reflectlite.Value).Set"], unfollowed := true, recurses := true, named := ["errors.errorType"], apart := false, laid := [("errors.errorType", laid_errors_errorType)] }
def SpanMostSaid : Prop := spanMostRow.holds Tryd.pinned (OpenSpec.ofChange spanMostSpec)

/-- ITS FALSE NEIGHBOUR: 'it returns false'. Refute it at one input. -/
def spanMostWrong : ChangeSpec := { name := "spanMost", fn := fun _ => fun
  | [d1, d2, d3] => { results := [.lit (.bool false)], args := [d1, d2, d3] }
  | _ => none }
def SpanMostWrongFalsely : Prop := spanMostRow.holds Tryd.pinned (OpenSpec.ofChange spanMostWrong)

/-- 'fuseelaw27.PauseTells': WHATEVER THE INPUT: true; the input reads as it did. -/
def pauseTellsSpec : ChangeSpec := { name := "pauseTells", fn := fun _ => fun
  | [d1, d2, d3] => { results := [.lit (.bool true)], args := [d1, d2, d3] }
  | _ => none }
def pauseTellsRow : OpenClaim := { program := "ytfipgpfmlkfkfaadoor", sum := "d3d9607ceaa963bf4e1f7919a1c8091b8869058cf5516512e131a0710c0d6126", func := "fusee/fuseelaw27.PauseTells", spec := "pauseTells", inPlace := ["internal/reflectlite.ValueOf", "(internal/reflectlite.Value).Type", "(internal/reflectlite.Value).IsNil", "internal/reflectlite.TypeOf", "(internal/reflectlite.Value).Elem", "(internal/reflectlite.Value).Set"], unfollowed := true, recurses := true, named := ["errors.errorType"], apart := false, laid := [("errors.errorType", laid_errors_errorType)] }
def PauseTellsSaid : Prop := pauseTellsRow.holds Tryd.pinned (OpenSpec.ofChange pauseTellsSpec)

/-- ITS FALSE NEIGHBOUR: 'it returns false'. Refute it at one input. -/
def pauseTellsWrong : ChangeSpec := { name := "pauseTells", fn := fun _ => fun
  | [d1, d2, d3] => { results := [.lit (.bool false)], args := [d1, d2, d3] }
  | _ => none }
def PauseTellsWrongFalsely : Prop := pauseTellsRow.holds Tryd.pinned (OpenSpec.ofChange pauseTellsWrong)

/-- 'fuseelaw27.PauseHolds': WHATEVER THE INPUT: true; the input reads as it did. -/
def pauseHoldsSpec : ChangeSpec := { name := "pauseHolds", fn := fun _ => fun
  | [d] => { results := [.lit (.bool true)], args := [d] }
  | _ => none }
def pauseHoldsRow : OpenClaim := { program := "ytfipgpfmlkfkfaadoor", sum := "d3d9607ceaa963bf4e1f7919a1c8091b8869058cf5516512e131a0710c0d6126", func := "fusee/fuseelaw27.PauseHolds", spec := "pauseHolds", inPlace := ["internal/reflectlite.ValueOf", "(internal/reflectlite.Value).Type", "(internal/reflectlite.Value).IsNil", "internal/reflectlite.TypeOf", "(internal/reflectlite.Value).Elem", "(internal/reflectlite.Value).Set"], unfollowed := true, recurses := true, named := ["errors.errorType"], apart := false, laid := [("errors.errorType", laid_errors_errorType)] }
def PauseHoldsSaid : Prop := pauseHoldsRow.holds Tryd.pinned (OpenSpec.ofChange pauseHoldsSpec)

/-- ITS FALSE NEIGHBOUR: 'it returns false'. Refute it at one input. -/
def pauseHoldsWrong : ChangeSpec := { name := "pauseHolds", fn := fun _ => fun
  | [d] => { results := [.lit (.bool false)], args := [d] }
  | _ => none }
def PauseHoldsWrongFalsely : Prop := pauseHoldsRow.holds Tryd.pinned (OpenSpec.ofChange pauseHoldsWrong)

/-- 'fuseelaw27.PauseLost': WHATEVER THE INPUT: true; the input reads as it did. -/
def pauseLostSpec : ChangeSpec := { name := "pauseLost", fn := fun _ => fun
  | [d1, d2, d3] => { results := [.lit (.bool true)], args := [d1, d2, d3] }
  | _ => none }
def pauseLostRow : OpenClaim := { program := "ytfipgpfmlkfkfaadoor", sum := "d3d9607ceaa963bf4e1f7919a1c8091b8869058cf5516512e131a0710c0d6126", func := "fusee/fuseelaw27.PauseLost", spec := "pauseLost", inPlace := ["internal/reflectlite.ValueOf", "(internal/reflectlite.Value).Type", "(internal/reflectlite.Value).IsNil", "internal/reflectlite.TypeOf", "(internal/reflectlite.Value).Elem", "(internal/reflectlite.Value).Set"], unfollowed := true, recurses := true, named := ["errors.errorType"], apart := false, laid := [("errors.errorType", laid_errors_errorType)] }
def PauseLostSaid : Prop := pauseLostRow.holds Tryd.pinned (OpenSpec.ofChange pauseLostSpec)

/-- ITS FALSE NEIGHBOUR: 'it returns false'. Refute it at one input. -/
def pauseLostWrong : ChangeSpec := { name := "pauseLost", fn := fun _ => fun
  | [d1, d2, d3] => { results := [.lit (.bool false)], args := [d1, d2, d3] }
  | _ => none }
def PauseLostWrongFalsely : Prop := pauseLostRow.holds Tryd.pinned (OpenSpec.ofChange pauseLostWrong)

/-- 'fuseelaw13.SpanSteps': WHATEVER THE INPUT: true; the input reads as it did. -/
def spanStepsSpec : ChangeSpec := { name := "spanSteps", fn := fun _ => fun
  | [d1, d2, d3] => { results := [.lit (.bool true)], args := [d1, d2, d3] }
  | _ => none }
def spanStepsRow : OpenClaim := { program := "ytfipgpfmlkfkfaadoor", sum := "d3d9607ceaa963bf4e1f7919a1c8091b8869058cf5516512e131a0710c0d6126", func := "fusee/fuseelaw13.SpanSteps", spec := "spanSteps", inPlace := ["internal/reflectlite.ValueOf", "(internal/reflectlite.Value).Type", "(internal/reflectlite.Value).IsNil", "internal/reflectlite.TypeOf", "(internal/reflectlite.Value).Elem", "(internal/reflectlite.Value).Set"], unfollowed := true, recurses := true, named := ["errors.errorType"], apart := false, laid := [("errors.errorType", laid_errors_errorType)] }
def SpanStepsSaid : Prop := spanStepsRow.holds Tryd.pinned (OpenSpec.ofChange spanStepsSpec)

/-- ITS FALSE NEIGHBOUR: 'it returns false'. Refute it at one input. -/
def spanStepsWrong : ChangeSpec := { name := "spanSteps", fn := fun _ => fun
  | [d1, d2, d3] => { results := [.lit (.bool false)], args := [d1, d2, d3] }
  | _ => none }
def SpanStepsWrongFalsely : Prop := spanStepsRow.holds Tryd.pinned (OpenSpec.ofChange spanStepsWrong)

/-- 'fuseelaw13.SpanMeets': WHATEVER THE INPUT: true; the input reads as it did. -/
def spanMeetsSpec : ChangeSpec := { name := "spanMeets", fn := fun _ => fun
  | [d1, d2, d3] => { results := [.lit (.bool true)], args := [d1, d2, d3] }
  | _ => none }
def spanMeetsRow : OpenClaim := { program := "ytfipgpfmlkfkfaadoor", sum := "d3d9607ceaa963bf4e1f7919a1c8091b8869058cf5516512e131a0710c0d6126", func := "fusee/fuseelaw13.SpanMeets", spec := "spanMeets", inPlace := ["internal/reflectlite.ValueOf", "(internal/reflectlite.Value).Type", "(internal/reflectlite.Value).IsNil", "internal/reflectlite.TypeOf", "(internal/reflectlite.Value).Elem", "(internal/reflectlite.Value).Set"], unfollowed := true, recurses := true, named := ["errors.errorType"], apart := false, laid := [("errors.errorType", laid_errors_errorType)] }
def SpanMeetsSaid : Prop := spanMeetsRow.holds Tryd.pinned (OpenSpec.ofChange spanMeetsSpec)

/-- ITS FALSE NEIGHBOUR: 'it returns false'. Refute it at one input. -/
def spanMeetsWrong : ChangeSpec := { name := "spanMeets", fn := fun _ => fun
  | [d1, d2, d3] => { results := [.lit (.bool false)], args := [d1, d2, d3] }
  | _ => none }
def SpanMeetsWrongFalsely : Prop := spanMeetsRow.holds Tryd.pinned (OpenSpec.ofChange spanMeetsWrong)

/- THE SECOND FORM. 'bulk': how many values and letters a reading holds, each counted each time it is reached (what is shared counts as often as it is met; a slice's spare places count too). A statement '..UptoSaid' is the law's where the arguments, and the package variables that the reading takes, are together of bulk at most 1048576: NARROWER than '..Said'. Prove '..Said' where nothing that the law and all that it calls make is longer than what came in: it says more and counts as full. Else prove '..UptoSaid'. A law counts once. -/
mutual
def uptoBulk {H : Type} : DataW H → Nat
  | .lit (.string bytes) => bytes.length + 1
  | .lit _ => 1
  | .nil => 1
  | .ptr d => uptoBulk d + 1
  | .slice elems spare => uptoBulkAll elems + uptoBulkAll spare + 1
  | .agg parts => uptoBulkAll parts + 1
  | .iface _ d => uptoBulk d + 1
  | .map entries => uptoBulkEntries entries + 1
  | .held _ => 1
def uptoBulkAll {H : Type} : List (DataW H) → Nat
  | [] => 0
  | d :: r => uptoBulk d + uptoBulkAll r
def uptoBulkEntries {H : Type} : List (Lit × DataW H) → Nat
  | [] => 0
  | x :: r => uptoBulkEntry x + uptoBulkEntries r
def uptoBulkEntry {H : Type} : Lit × DataW H → Nat
  | (.string bytes, d) => bytes.length + uptoBulk d + 1
  | (_, d) => uptoBulk d + 1
 end
def uptoSmall : (H : Type) → List (DataW H) → Bool := fun _ ds => decide (uptoBulkAll ds ≤ 1048576)
def OpenSpec.upto (s : _root_.Go.ChangeSpec) : _root_.Go.OpenSpec := { _root_.Go.OpenSpec.ofChange s with cond := some uptoSmall }

/-- 'fuseelaw16.ServoSteps', WHERE WHAT IT READS IS OF BULK AT MOST 1048576: true; the input reads as it did. -/
def servoStepsUptoRow : OpenClaim := { program := "ytfipgpfmlkfkfaadoor", sum := "d3d9607ceaa963bf4e1f7919a1c8091b8869058cf5516512e131a0710c0d6126", func := "fusee/fuseelaw16.ServoSteps", spec := "servoSteps", inPlace := ["internal/reflectlite.ValueOf", "(internal/reflectlite.Value).Type", "(internal/reflectlite.Value).IsNil", "internal/reflectlite.TypeOf", "(internal/reflectlite.Value).Elem", "(internal/reflectlite.Value).Set"], unfollowed := true, recurses := true, named := ["errors.errorType"], apart := false, laid := [("errors.errorType", laid_errors_errorType)], narrowed := true }
def ServoStepsUptoSaid : Prop := servoStepsUptoRow.holds Tryd.pinned (OpenSpec.upto servoStepsSpec)

/-- 'fuseelaw16.ServoHolds', WHERE WHAT IT READS IS OF BULK AT MOST 1048576: true; the input reads as it did. -/
def servoHoldsUptoRow : OpenClaim := { program := "ytfipgpfmlkfkfaadoor", sum := "d3d9607ceaa963bf4e1f7919a1c8091b8869058cf5516512e131a0710c0d6126", func := "fusee/fuseelaw16.ServoHolds", spec := "servoHolds", inPlace := ["internal/reflectlite.ValueOf", "(internal/reflectlite.Value).Type", "(internal/reflectlite.Value).IsNil", "internal/reflectlite.TypeOf", "(internal/reflectlite.Value).Elem", "(internal/reflectlite.Value).Set"], unfollowed := true, recurses := true, named := ["errors.errorType"], apart := false, laid := [("errors.errorType", laid_errors_errorType)], narrowed := true }
def ServoHoldsUptoSaid : Prop := servoHoldsUptoRow.holds Tryd.pinned (OpenSpec.upto servoHoldsSpec)

/-- 'fuseelaw16.ServoSlews', WHERE WHAT IT READS IS OF BULK AT MOST 1048576: true; the input reads as it did. -/
def servoSlewsUptoRow : OpenClaim := { program := "ytfipgpfmlkfkfaadoor", sum := "d3d9607ceaa963bf4e1f7919a1c8091b8869058cf5516512e131a0710c0d6126", func := "fusee/fuseelaw16.ServoSlews", spec := "servoSlews", inPlace := ["internal/reflectlite.ValueOf", "(internal/reflectlite.Value).Type", "(internal/reflectlite.Value).IsNil", "internal/reflectlite.TypeOf", "(internal/reflectlite.Value).Elem", "(internal/reflectlite.Value).Set"], unfollowed := true, recurses := true, named := ["errors.errorType"], apart := false, laid := [("errors.errorType", laid_errors_errorType)], narrowed := true }
def ServoSlewsUptoSaid : Prop := servoSlewsUptoRow.holds Tryd.pinned (OpenSpec.upto servoSlewsSpec)

/-- 'fuseelaw04.CrcSums', WHERE WHAT IT READS IS OF BULK AT MOST 1048576: true; the input reads as it did. -/
def crcSumsUptoRow : OpenClaim := { program := "ytfipgpfmlkfkfaadoor", sum := "d3d9607ceaa963bf4e1f7919a1c8091b8869058cf5516512e131a0710c0d6126", func := "fusee/fuseelaw04.CrcSums", spec := "crcSums", inPlace := ["internal/reflectlite.ValueOf", "(internal/reflectlite.Value).Type", "(internal/reflectlite.Value).IsNil", "internal/reflectlite.TypeOf", "(internal/reflectlite.Value).Elem", "(internal/reflectlite.Value).Set"], unfollowed := true, recurses := true, named := ["errors.errorType"], apart := false, laid := [("errors.errorType", laid_errors_errorType)], narrowed := true }
def CrcSumsUptoSaid : Prop := crcSumsUptoRow.holds Tryd.pinned (OpenSpec.upto crcSumsSpec)

/-- 'fuseelaw04.CrcFinds', WHERE WHAT IT READS IS OF BULK AT MOST 1048576: true; the input reads as it did. -/
def crcFindsUptoRow : OpenClaim := { program := "ytfipgpfmlkfkfaadoor", sum := "d3d9607ceaa963bf4e1f7919a1c8091b8869058cf5516512e131a0710c0d6126", func := "fusee/fuseelaw04.CrcFinds", spec := "crcFinds", inPlace := ["internal/reflectlite.ValueOf", "(internal/reflectlite.Value).Type", "(internal/reflectlite.Value).IsNil", "internal/reflectlite.TypeOf", "(internal/reflectlite.Value).Elem", "(internal/reflectlite.Value).Set"], unfollowed := true, recurses := true, named := ["errors.errorType"], apart := false, laid := [("errors.errorType", laid_errors_errorType)], narrowed := true }
def CrcFindsUptoSaid : Prop := crcFindsUptoRow.holds Tryd.pinned (OpenSpec.upto crcFindsSpec)

/-- 'fuseelaw13.SpanVotes', WHERE WHAT IT READS IS OF BULK AT MOST 1048576: true; the input reads as it did. -/
def spanVotesUptoRow : OpenClaim := { program := "ytfipgpfmlkfkfaadoor", sum := "d3d9607ceaa963bf4e1f7919a1c8091b8869058cf5516512e131a0710c0d6126", func := "fusee/fuseelaw13.SpanVotes", spec := "spanVotes", inPlace := ["internal/reflectlite.ValueOf", "(internal/reflectlite.Value).Type", "(internal/reflectlite.Value).IsNil", "internal/reflectlite.TypeOf", "(internal/reflectlite.Value).Elem", "(internal/reflectlite.Value).Set"], unfollowed := true, recurses := true, named := ["errors.errorType"], apart := false, laid := [("errors.errorType", laid_errors_errorType)], narrowed := true }
def SpanVotesUptoSaid : Prop := spanVotesUptoRow.holds Tryd.pinned (OpenSpec.upto spanVotesSpec)

/-- 'fuseelaw13.SpanMost', WHERE WHAT IT READS IS OF BULK AT MOST 1048576: true; the input reads as it did. -/
def spanMostUptoRow : OpenClaim := { program := "ytfipgpfmlkfkfaadoor", sum := "d3d9607ceaa963bf4e1f7919a1c8091b8869058cf5516512e131a0710c0d6126", func := "fusee/fuseelaw13.SpanMost", spec := "spanMost", inPlace := ["internal/reflectlite.ValueOf", "(internal/reflectlite.Value).Type", "(internal/reflectlite.Value).IsNil", "internal/reflectlite.TypeOf", "(internal/reflectlite.Value).Elem", "(internal/reflectlite.Value).Set"], unfollowed := true, recurses := true, named := ["errors.errorType"], apart := false, laid := [("errors.errorType", laid_errors_errorType)], narrowed := true }
def SpanMostUptoSaid : Prop := spanMostUptoRow.holds Tryd.pinned (OpenSpec.upto spanMostSpec)

/-- 'fuseelaw27.PauseTells', WHERE WHAT IT READS IS OF BULK AT MOST 1048576: true; the input reads as it did. -/
def pauseTellsUptoRow : OpenClaim := { program := "ytfipgpfmlkfkfaadoor", sum := "d3d9607ceaa963bf4e1f7919a1c8091b8869058cf5516512e131a0710c0d6126", func := "fusee/fuseelaw27.PauseTells", spec := "pauseTells", inPlace := ["internal/reflectlite.ValueOf", "(internal/reflectlite.Value).Type", "(internal/reflectlite.Value).IsNil", "internal/reflectlite.TypeOf", "(internal/reflectlite.Value).Elem", "(internal/reflectlite.Value).Set"], unfollowed := true, recurses := true, named := ["errors.errorType"], apart := false, laid := [("errors.errorType", laid_errors_errorType)], narrowed := true }
def PauseTellsUptoSaid : Prop := pauseTellsUptoRow.holds Tryd.pinned (OpenSpec.upto pauseTellsSpec)

/-- 'fuseelaw27.PauseHolds', WHERE WHAT IT READS IS OF BULK AT MOST 1048576: true; the input reads as it did. -/
def pauseHoldsUptoRow : OpenClaim := { program := "ytfipgpfmlkfkfaadoor", sum := "d3d9607ceaa963bf4e1f7919a1c8091b8869058cf5516512e131a0710c0d6126", func := "fusee/fuseelaw27.PauseHolds", spec := "pauseHolds", inPlace := ["internal/reflectlite.ValueOf", "(internal/reflectlite.Value).Type", "(internal/reflectlite.Value).IsNil", "internal/reflectlite.TypeOf", "(internal/reflectlite.Value).Elem", "(internal/reflectlite.Value).Set"], unfollowed := true, recurses := true, named := ["errors.errorType"], apart := false, laid := [("errors.errorType", laid_errors_errorType)], narrowed := true }
def PauseHoldsUptoSaid : Prop := pauseHoldsUptoRow.holds Tryd.pinned (OpenSpec.upto pauseHoldsSpec)

/-- 'fuseelaw27.PauseLost', WHERE WHAT IT READS IS OF BULK AT MOST 1048576: true; the input reads as it did. -/
def pauseLostUptoRow : OpenClaim := { program := "ytfipgpfmlkfkfaadoor", sum := "d3d9607ceaa963bf4e1f7919a1c8091b8869058cf5516512e131a0710c0d6126", func := "fusee/fuseelaw27.PauseLost", spec := "pauseLost", inPlace := ["internal/reflectlite.ValueOf", "(internal/reflectlite.Value).Type", "(internal/reflectlite.Value).IsNil", "internal/reflectlite.TypeOf", "(internal/reflectlite.Value).Elem", "(internal/reflectlite.Value).Set"], unfollowed := true, recurses := true, named := ["errors.errorType"], apart := false, laid := [("errors.errorType", laid_errors_errorType)], narrowed := true }
def PauseLostUptoSaid : Prop := pauseLostUptoRow.holds Tryd.pinned (OpenSpec.upto pauseLostSpec)

/-- 'fuseelaw13.SpanSteps', WHERE WHAT IT READS IS OF BULK AT MOST 1048576: true; the input reads as it did. -/
def spanStepsUptoRow : OpenClaim := { program := "ytfipgpfmlkfkfaadoor", sum := "d3d9607ceaa963bf4e1f7919a1c8091b8869058cf5516512e131a0710c0d6126", func := "fusee/fuseelaw13.SpanSteps", spec := "spanSteps", inPlace := ["internal/reflectlite.ValueOf", "(internal/reflectlite.Value).Type", "(internal/reflectlite.Value).IsNil", "internal/reflectlite.TypeOf", "(internal/reflectlite.Value).Elem", "(internal/reflectlite.Value).Set"], unfollowed := true, recurses := true, named := ["errors.errorType"], apart := false, laid := [("errors.errorType", laid_errors_errorType)], narrowed := true }
def SpanStepsUptoSaid : Prop := spanStepsUptoRow.holds Tryd.pinned (OpenSpec.upto spanStepsSpec)

/-- 'fuseelaw13.SpanMeets', WHERE WHAT IT READS IS OF BULK AT MOST 1048576: true; the input reads as it did. -/
def spanMeetsUptoRow : OpenClaim := { program := "ytfipgpfmlkfkfaadoor", sum := "d3d9607ceaa963bf4e1f7919a1c8091b8869058cf5516512e131a0710c0d6126", func := "fusee/fuseelaw13.SpanMeets", spec := "spanMeets", inPlace := ["internal/reflectlite.ValueOf", "(internal/reflectlite.Value).Type", "(internal/reflectlite.Value).IsNil", "internal/reflectlite.TypeOf", "(internal/reflectlite.Value).Elem", "(internal/reflectlite.Value).Set"], unfollowed := true, recurses := true, named := ["errors.errorType"], apart := false, laid := [("errors.errorType", laid_errors_errorType)], narrowed := true }
def SpanMeetsUptoSaid : Prop := spanMeetsUptoRow.holds Tryd.pinned (OpenSpec.upto spanMeetsSpec)

end Rows
end Go.Proofs.YtfipgpfmlkfkfaaDoor
