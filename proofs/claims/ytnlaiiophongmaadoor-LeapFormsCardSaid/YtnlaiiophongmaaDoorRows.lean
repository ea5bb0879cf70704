/-
  NARROWER THAN 'FOR EVERY INPUT', by the rows' own cells (each row's printed sentence says how): SlotTells: laid · SlotRound: laid · NetSteps: laid · NetCounts: laid · FloorTells: laid · FloorHolds: laid · LeapDays: laid · LeapMore: laid · LeapMoments: laid · LeapBack: laid · LeapForms: laid.
  DERIVED. THE GIVEN ROWS OF THIS SEAT. 11 by the template 'for every input the law returns true; each argument reads behind the call as it read before'; 0 by the template 'total and deterministic' (their statements: YtnlaiiophongmaaDoorTotals.lean).
  GIVEN WITH THE SEED: the statements are not yours to turn. If you find one false, say at which input.
  Laid BY PROGRAM, IN A SANDBOX (cutbox-rows.mjs): the forced cells as the released guide's own fill.sh prints them over the translation f79da9f271b018b9… (all of the seat's roots in one cut). By AI agents, Wed Nov 11 2026. No macro, syntax, notation, axiom, sorry.
-/
import Derived.Test.YtnlaiiophongmaaDoorChecked
import GoSem.Claim
import GoSem.ClaimJoined
import GoSem.ClaimMapViews
import Derived.JoinedTies
import Derived.KernelRfl
namespace Go.Proofs.YtnlaiiophongmaaDoor
/- THE CELL 'sum', in the pinned program and in every row, IS THE sha256 OF THE DUMP (.gsa) THAT YtnlaiiophongmaaDoorProg.lean LOADS. Nothing in Lean hashes anything: it is a label: what it is worth is what the hold of that sum in a sandbox is worth. -/
noncomputable def Tryd.pinned : Pinned := { name := "ytnlaiiophongmaadoor", sum := "f79da9f271b018b9dcb48f57fbc48df48abf79137d1dd1f4da4eff2365cf99c8", checked := Tryd.checked }
namespace Rows
def none {H : Type} : Left H := { results := [], args := [] }

/- WHAT THE LISTED PACKAGE-LEVEL VARIABLES READ AS WHEN THE CALL BEGINS. Each datum BY PROGRAM (the guide's laid-datum.mjs) off the statement by which the dump's own 'gosem.cut.vars' lays the variable. In a bare row this is a premise. The card (YtnlaiiophongmaaDoorCards.lean) ties it to the program's text. -/
def laid_errors_errorType {H : Type} : DataW H := .iface "internal/reflectlite.rtype" (.agg [.ptr (.lit (.string [101, 114, 114, 111, 114]))])

/-- 'fuseelaw35.SlotTells': WHATEVER THE INPUT: true; the input reads as it did. -/
def slotTellsSpec : ChangeSpec := { name := "slotTells", fn := fun _ => fun
  | [d1, d2, d3] => { results := [.lit (.bool true)], args := [d1, d2, d3] }
  | _ => none }
def slotTellsRow : OpenClaim := { program := "ytnlaiiophongmaadoor", sum := "f79da9f271b018b9dcb48f57fbc48df48abf79137d1dd1f4da4eff2365cf99c8", func := "fusee/fuseelaw35.SlotTells", spec := "slotTells", inPlace := ["internal/reflectlite.ValueOf", "(internal/reflectlite.Value).Type", "(internal/reflectlite.Value).IsNil", "internal/reflectlite.TypeOf", "(internal/reflectlite.Value).Elem", "(internal/reflectlite.Value).Set"], unfollowed := true, recurses := true, named := ["errors.errorType"], apart := false, laid := [("errors.errorType", laid_errors_errorType)] }
def SlotTellsSaid : Prop := slotTellsRow.holds Tryd.pinned (OpenSpec.ofChange slotTellsSpec)

/-- ITS FALSE NEIGHBOUR: 'it returns false'. Refute it at one input. -/
def slotTellsWrong : ChangeSpec := { name := "slotTells", fn := fun _ => fun
  | [d1, d2, d3] => { results := [.lit (.bool false)], args := [d1, d2, d3] }
  | _ => none }
def SlotTellsWrongFalsely : Prop := slotTellsRow.holds Tryd.pinned (OpenSpec.ofChange slotTellsWrong)

/-- 'fuseelaw35.SlotRound': WHATEVER THE INPUT: true; the input reads as it did. -/
def slotRoundSpec : ChangeSpec := { name := "slotRound", fn := fun _ => fun
  | [d1, d2, d3] => { results := [.lit (.bool true)], args := [d1, d2, d3] }
  | _ => none }
def slotRoundRow : OpenClaim := { program := "ytnlaiiophongmaadoor", sum := "f79da9f271b018b9dcb48f57fbc48df48abf79137d1dd1f4da4eff2365cf99c8", func := "fusee/fuseelaw35.SlotRound", spec := "slotRound", inPlace := ["internal/reflectlite.ValueOf", "(internal/reflectlite.Value).Type", "(internal/reflectlite.Value).IsNil", "internal/reflectlite.TypeOf", "(internal/reflectlite.Value).Elem", "(internal/reflectlite.Value).Set"], unfollowed := true, recurses := true, named := ["errors.errorType"], apart := false, laid := [("errors.errorType", laid_errors_errorType)] }
def SlotRoundSaid : Prop := slotRoundRow.holds Tryd.pinned (OpenSpec.ofChange slotRoundSpec)

/-- ITS FALSE NEIGHBOUR: 'it returns false'. Refute it at one input. -/
def slotRoundWrong : ChangeSpec := { name := "slotRound", fn := fun _ => fun
  | [d1, d2, d3] => { results := [.lit (.bool false)], args := [d1, d2, d3] }
  | _ => none }
def SlotRoundWrongFalsely : Prop := slotRoundRow.holds Tryd.pinned (OpenSpec.ofChange slotRoundWrong)

/-- 'fuseelaw32.NetSteps': WHATEVER THE INPUT: true; the input reads as it did. -/
def netStepsSpec : ChangeSpec := { name := "netSteps", fn := fun _ => fun
  | [d1, d2, d3] => { results := [.lit (.bool true)], args := [d1, d2, d3] }
  | _ => none }
def netStepsRow : OpenClaim := { program := "ytnlaiiophongmaadoor", sum := "f79da9f271b018b9dcb48f57fbc48df48abf79137d1dd1f4da4eff2365cf99c8", func := "fusee/fuseelaw32.NetSteps", spec := "netSteps", inPlace := ["internal/reflectlite.ValueOf", "(internal/reflectlite.Value).Type", "(internal/reflectlite.Value).IsNil", "internal/reflectlite.TypeOf", "(internal/reflectlite.Value).Elem", "(internal/reflectlite.Value).Set"], unfollowed := true, recurses := true, named := ["errors.errorType"], apart := false, laid := [("errors.errorType", laid_errors_errorType)] }
def NetStepsSaid : Prop := netStepsRow.holds Tryd.pinned (OpenSpec.ofChange netStepsSpec)

/-- ITS FALSE NEIGHBOUR: 'it returns false'. Refute it at one input. -/
def netStepsWrong : ChangeSpec := { name := "netSteps", fn := fun _ => fun
  | [d1, d2, d3] => { results := [.lit (.bool false)], args := [d1, d2, d3] }
  | _ => none }
def NetStepsWrongFalsely : Prop := netStepsRow.holds Tryd.pinned (OpenSpec.ofChange netStepsWrong)

/-- 'fuseelaw32.NetCounts': WHATEVER THE INPUT: true; the input reads as it did. -/
def netCountsSpec : ChangeSpec := { name := "netCounts", fn := fun _ => fun
  | [d] => { results := [.lit (.bool true)], args := [d] }
  | _ => none }
def netCountsRow : OpenClaim := { program := "ytnlaiiophongmaadoor", sum := "f79da9f271b018b9dcb48f57fbc48df48abf79137d1dd1f4da4eff2365cf99c8", func := "fusee/fuseelaw32.NetCounts", spec := "netCounts", inPlace := ["internal/reflectlite.ValueOf", "(internal/reflectlite.Value).Type", "(internal/reflectlite.Value).IsNil", "internal/reflectlite.TypeOf", "(internal/reflectlite.Value).Elem", "(internal/reflectlite.Value).Set"], unfollowed := true, recurses := true, named := ["errors.errorType"], apart := false, laid := [("errors.errorType", laid_errors_errorType)] }
def NetCountsSaid : Prop := netCountsRow.holds Tryd.pinned (OpenSpec.ofChange netCountsSpec)

/-- ITS FALSE NEIGHBOUR: 'it returns false'. Refute it at one input. -/
def netCountsWrong : ChangeSpec := { name := "netCounts", fn := fun _ => fun
  | [d] => { results := [.lit (.bool false)], args := [d] }
  | _ => none }
def NetCountsWrongFalsely : Prop := netCountsRow.holds Tryd.pinned (OpenSpec.ofChange netCountsWrong)

/-- 'fuseelaw26.FloorTells': WHATEVER THE INPUT: true; the input reads as it did. -/
def floorTellsSpec : ChangeSpec := { name := "floorTells", fn := fun _ => fun
  | [d1, d2, d3] => { results := [.lit (.bool true)], args := [d1, d2, d3] }
  | _ => none }
def floorTellsRow : OpenClaim := { program := "ytnlaiiophongmaadoor", sum := "f79da9f271b018b9dcb48f57fbc48df48abf79137d1dd1f4da4eff2365cf99c8", func := "fusee/fuseelaw26.FloorTells", spec := "floorTells", inPlace := ["internal/reflectlite.ValueOf", "(internal/reflectlite.Value).Type", "(internal/reflectlite.Value).IsNil", "internal/reflectlite.TypeOf", "(internal/reflectlite.Value).Elem", "(internal/reflectlite.Value).Set"], unfollowed := true, recurses := true, named := ["errors.errorType"], apart := false, laid := [("errors.errorType", laid_errors_errorType)] }
def FloorTellsSaid : Prop := floorTellsRow.holds Tryd.pinned (OpenSpec.ofChange floorTellsSpec)

/-- ITS FALSE NEIGHBOUR: 'it returns false'. Refute it at one input. -/
def floorTellsWrong : ChangeSpec := { name := "floorTells", fn := fun _ => fun
  | [d1, d2, d3] => { results := [.lit (.bool false)], args := [d1, d2, d3] }
  | _ => none }
def FloorTellsWrongFalsely : Prop := floorTellsRow.holds Tryd.pinned (OpenSpec.ofChange floorTellsWrong)

/-- 'fuseelaw26.FloorHolds': WHATEVER THE INPUT: true; the input reads as it did. -/
def floorHoldsSpec : ChangeSpec := { name := "floorHolds", fn := fun _ => fun
  | [d1, d2] => { results := [.lit (.bool true)], args := [d1, d2] }
  | _ => none }
def floorHoldsRow : OpenClaim := { program := "ytnlaiiophongmaadoor", sum := "f79da9f271b018b9dcb48f57fbc48df48abf79137d1dd1f4da4eff2365cf99c8", func := "fusee/fuseelaw26.FloorHolds", spec := "floorHolds", inPlace := ["internal/reflectlite.ValueOf", "(internal/reflectlite.Value).Type", "(internal/reflectlite.Value).IsNil", "internal/reflectlite.TypeOf", "(internal/reflectlite.Value).Elem", "(internal/reflectlite.Value).Set"], unfollowed := true, recurses := true, named := ["errors.errorType"], apart := false, laid := [("errors.errorType", laid_errors_errorType)] }
def FloorHoldsSaid : Prop := floorHoldsRow.holds Tryd.pinned (OpenSpec.ofChange floorHoldsSpec)

/-- ITS FALSE NEIGHBOUR: 'it returns false'. Refute it at one input. -/
def floorHoldsWrong : ChangeSpec := { name := "floorHolds", fn := fun _ => fun
  | [d1, d2] => { results := [.lit (.bool false)], args := [d1, d2] }
  | _ => none }
def FloorHoldsWrongFalsely : Prop := floorHoldsRow.holds Tryd.pinned (OpenSpec.ofChange floorHoldsWrong)

/-- 'fuseelaw09.LeapDays': WHATEVER THE INPUT: true; the input reads as it did. -/
def leapDaysSpec : ChangeSpec := { name := "leapDays", fn := fun _ => fun
  | [d1, d2] => { results := [.lit (.bool true)], args := [d1, d2] }
  | _ => none }
def leapDaysRow : OpenClaim := { program := "ytnlaiiophongmaadoor", sum := "f79da9f271b018b9dcb48f57fbc48df48abf79137d1dd1f4da4eff2365cf99c8", func := "fusee/fuseelaw09.LeapDays", spec := "leapDays", inPlace := ["internal/reflectlite.ValueOf", "(internal/reflectlite.Value).Type", "(internal/reflectlite.Value).IsNil", "internal/reflectlite.TypeOf", "(internal/reflectlite.Value).Elem", "(internal/reflectlite.Value).Set"], unfollowed := true, recurses := true, named := ["errors.errorType"], apart := false, laid := [("errors.errorType", laid_errors_errorType)] }
def LeapDaysSaid : Prop := leapDaysRow.holds Tryd.pinned (OpenSpec.ofChange leapDaysSpec)

/-- ITS FALSE NEIGHBOUR: 'it returns false'. Refute it at one input. -/
def leapDaysWrong : ChangeSpec := { name := "leapDays", fn := fun _ => fun
  | [d1, d2] => { results := [.lit (.bool false)], args := [d1, d2] }
  | _ => none }
def LeapDaysWrongFalsely : Prop := leapDaysRow.holds Tryd.pinned (OpenSpec.ofChange leapDaysWrong)

/-- 'fuseelaw09.LeapMore': WHATEVER THE INPUT: true; the input reads as it did. -/
def leapMoreSpec : ChangeSpec := { name := "leapMore", fn := fun _ => fun
  | [d1, d2, d3] => { results := [.lit (.bool true)], args := [d1, d2, d3] }
  | _ => none }
def leapMoreRow : OpenClaim := { program := "ytnlaiiophongmaadoor", sum := "f79da9f271b018b9dcb48f57fbc48df48abf79137d1dd1f4da4eff2365cf99c8", func := "fusee/fuseelaw09.LeapMore", spec := "leapMore", inPlace := ["internal/reflectlite.ValueOf", "(internal/reflectlite.Value).Type", "(internal/reflectlite.Value).IsNil", "internal/reflectlite.TypeOf", "(internal/reflectlite.Value).Elem", "(internal/reflectlite.Value).Set"], unfollowed := true, recurses := true, named := ["errors.errorType"], apart := false, laid := [("errors.errorType", laid_errors_errorType)] }
def LeapMoreSaid : Prop := leapMoreRow.holds Tryd.pinned (OpenSpec.ofChange leapMoreSpec)

/-- ITS FALSE NEIGHBOUR: 'it returns false'. Refute it at one input. -/
def leapMoreWrong : ChangeSpec := { name := "leapMore", fn := fun _ => fun
  | [d1, d2, d3] => { results := [.lit (.bool false)], args := [d1, d2, d3] }
  | _ => none }
def LeapMoreWrongFalsely : Prop := leapMoreRow.holds Tryd.pinned (OpenSpec.ofChange leapMoreWrong)

/-- 'fuseelaw09.LeapMoments': WHATEVER THE INPUT: true; the input reads as it did. -/
def leapMomentsSpec : ChangeSpec := { name := "leapMoments", fn := fun _ => fun
  | [d1, d2, d3] => { results := [.lit (.bool true)], args := [d1, d2, d3] }
  | _ => none }
def leapMomentsRow : OpenClaim := { program := "ytnlaiiophongmaadoor", sum := "f79da9f271b018b9dcb48f57fbc48df48abf79137d1dd1f4da4eff2365cf99c8", func := "fusee/fuseelaw09.LeapMoments", spec := "leapMoments", inPlace := ["internal/reflectlite.ValueOf", "(internal/reflectlite.Value).Type", "(internal/reflectlite.Value).IsNil", "internal/reflectlite.TypeOf", "(internal/reflectlite.Value).Elem", "(internal/reflectlite.Value).Set"], unfollowed := true, recurses := true, named := ["errors.errorType"], apart := false, laid := [("errors.errorType", laid_errors_errorType)] }
def LeapMomentsSaid : Prop := leapMomentsRow.holds Tryd.pinned (OpenSpec.ofChange leapMomentsSpec)

/-- ITS FALSE NEIGHBOUR: 'it returns false'. Refute it at one input. -/
def leapMomentsWrong : ChangeSpec := { name := "leapMoments", fn := fun _ => fun
  | [d1, d2, d3] => { results := [.lit (.bool false)], args := [d1, d2, d3] }
  | _ => none }
def LeapMomentsWrongFalsely : Prop := leapMomentsRow.holds Tryd.pinned (OpenSpec.ofChange leapMomentsWrong)

/-- 'fuseelaw09.LeapBack': WHATEVER THE INPUT: true; the input reads as it did. -/
def leapBackSpec : ChangeSpec := { name := "leapBack", fn := fun _ => fun
  | [d1, d2, d3] => { results := [.lit (.bool true)], args := [d1, d2, d3] }
  | _ => none }
def leapBackRow : OpenClaim := { program := "ytnlaiiophongmaadoor", sum := "f79da9f271b018b9dcb48f57fbc48df48abf79137d1dd1f4da4eff2365cf99c8", func := "fusee/fuseelaw09.LeapBack", spec := "leapBack", inPlace := ["internal/reflectlite.ValueOf", "(internal/reflectlite.Value).Type", "(internal/reflectlite.Value).IsNil", "internal/reflectlite.TypeOf", "(internal/reflectlite.Value).Elem", "(internal/reflectlite.Value).Set"], unfollowed := true, recurses := true, named := ["errors.errorType"], apart := false, laid := [("errors.errorType", laid_errors_errorType)] }
def LeapBackSaid : Prop := leapBackRow.holds Tryd.pinned (OpenSpec.ofChange leapBackSpec)

/-- ITS FALSE NEIGHBOUR: 'it returns false'. Refute it at one input. -/
def leapBackWrong : ChangeSpec := { name := "leapBack", fn := fun _ => fun
  | [d1, d2, d3] => { results := [.lit (.bool false)], args := [d1, d2, d3] }
  | _ => none }
def LeapBackWrongFalsely : Prop := leapBackRow.holds Tryd.pinned (OpenSpec.ofChange leapBackWrong)

/-- 'fuseelaw09.LeapForms': WHATEVER THE INPUT: true; the input reads as it did. -/
def leapFormsSpec : ChangeSpec := { name := "leapForms", fn := fun _ => fun
  | [d1, d2] => { results := [.lit (.bool true)], args := [d1, d2] }
  | _ => none }
def leapFormsRow : OpenClaim := { program := "ytnlaiiophongmaadoor", sum := "f79da9f271b018b9dcb48f57fbc48df48abf79137d1dd1f4da4eff2365cf99c8", func := "fusee/fuseelaw09.LeapForms", spec := "leapForms", inPlace := ["internal/reflectlite.ValueOf", "(internal/reflectlite.Value).Type", "(internal/reflectlite.Value).IsNil", "internal/reflectlite.TypeOf", "(internal/reflectlite.Value).Elem", "(internal/reflectlite.Value).Set"], unfollowed := true, recurses := true, named := ["errors.errorType"], apart := false, laid := [("errors.errorType", laid_errors_errorType)] }
def LeapFormsSaid : Prop := leapFormsRow.holds Tryd.pinned (OpenSpec.ofChange leapFormsSpec)

/-- ITS FALSE NEIGHBOUR: 'it returns false'. Refute it at one input. -/
def leapFormsWrong : ChangeSpec := { name := "leapForms", fn := fun _ => fun
  | [d1, d2] => { results := [.lit (.bool false)], args := [d1, d2] }
  | _ => none }
def LeapFormsWrongFalsely : Prop := leapFormsRow.holds Tryd.pinned (OpenSpec.ofChange leapFormsWrong)

/- THE SECOND FORM. 'bulk': how many values and letters a reading holds, each counted each time it is reached (what is shared counts as often as it is met; a slice's spare places count too). A statement '..UptoSaid' is the law's where the arguments, and the package variables that the reading takes, are together of bulk at most 1048576: NARROWER than '..Said'. Prove '..Said' where nothing that the law and all that it calls make is longer than what came in: it says more and counts as full. Else prove '..UptoSaid'. A law counts once. -/
mutual
def uptoBulk {H : Type} : DataW H → Nat
  | .lit (.string bytes) => bytes.length + 1
  | .lit _ => 1
  | .nil => 1
  | .ptr d => uptoBulk d + 1
  | .slice elems spare => uptoBulkAll elems + uptoBulkAll spare + 1
  | .agg parts => uptoBulkAll parts + 1
  | .iface _ d => uptoBulk d + 1
  | .map entries => uptoBulkEntries entries + 1
  | .held _ => 1
def uptoBulkAll {H : Type} : List (DataW H) → Nat
  | [] => 0
  | d :: r => uptoBulk d + uptoBulkAll r
def uptoBulkEntries {H : Type} : List (Lit × DataW H) → Nat
  | [] => 0
  | x :: r => uptoBulkEntry x + uptoBulkEntries r
def uptoBulkEntry {H : Type} : Lit × DataW H → Nat
  | (.string bytes, d) => bytes.length + uptoBulk d + 1
  | (_, d) => uptoBulk d + 1
 end
def uptoSmall : (H : Type) → List (DataW H) → Bool := fun _ ds => decide (uptoBulkAll ds ≤ 1048576)
def OpenSpec.upto (s : _root_.Go.ChangeSpec) : _root_.Go.OpenSpec := { _root_.Go.OpenSpec.ofChange s with cond := some uptoSmall }

/-- 'fuseelaw35.SlotTells', WHERE WHAT IT READS IS OF BULK AT MOST 1048576: true; the input reads as it did. -/
def slotTellsUptoRow : OpenClaim := { program := "ytnlaiiophongmaadoor", sum := "f79da9f271b018b9dcb48f57fbc48df48abf79137d1dd1f4da4eff2365cf99c8", func := "fusee/fuseelaw35.SlotTells", spec := "slotTells", inPlace := ["internal/reflectlite.ValueOf", "(internal/reflectlite.Value).Type", "(internal/reflectlite.Value).IsNil", "internal/reflectlite.TypeOf", "(internal/reflectlite.Value).Elem", "(internal/reflectlite.Value).Set"], unfollowed := true, recurses := true, named := ["errors.errorType"], apart := false, laid := [("errors.errorType", laid_errors_errorType)], narrowed := true }
def SlotTellsUptoSaid : Prop := slotTellsUptoRow.holds Tryd.pinned (OpenSpec.upto slotTellsSpec)

/-- 'fuseelaw35.SlotRound', WHERE WHAT IT READS IS OF BULK AT MOST 1048576: true; the input reads as it did. -/
def slotRoundUptoRow : OpenClaim := { program := "ytnlaiiophongmaadoor", sum := "f79da9f271b018b9dcb48f57fbc48df48abf79137d1dd1f4da4eff2365cf99c8", func := "fusee/fuseelaw35.SlotRound", spec := "slotRound", inPlace := ["internal/reflectlite.ValueOf", "(internal/reflectlite.Value).Type", "(internal/reflectlite.Value).IsNil", "internal/reflectlite.TypeOf", "(internal/reflectlite.Value).Elem", "(internal/reflectlite.Value).Set"], unfollowed := true, recurses := true, named := ["errors.errorType"], apart := false, laid := [("errors.errorType", laid_errors_errorType)], narrowed := true }
def SlotRoundUptoSaid : Prop := slotRoundUptoRow.holds Tryd.pinned (OpenSpec.upto slotRoundSpec)

/-- 'fuseelaw32.NetSteps', WHERE WHAT IT READS IS OF BULK AT MOST 1048576: true; the input reads as it did. -/
def netStepsUptoRow : OpenClaim := { program := "ytnlaiiophongmaadoor", sum := "f79da9f271b018b9dcb48f57fbc48df48abf79137d1dd1f4da4eff2365cf99c8", func := "fusee/fuseelaw32.NetSteps", spec := "netSteps", inPlace := ["internal/reflectlite.ValueOf", "(internal/reflectlite.Value).Type", "(internal/reflectlite.Value).IsNil", "internal/reflectlite.TypeOf", "(internal/reflectlite.Value).Elem", "(internal/reflectlite.Value).Set"], unfollowed := true, recurses := true, named := ["errors.errorType"], apart := false, laid := [("errors.errorType", laid_errors_errorType)], narrowed := true }
def NetStepsUptoSaid : Prop := netStepsUptoRow.holds Tryd.pinned (OpenSpec.upto netStepsSpec)

/-- 'fuseelaw32.NetCounts', WHERE WHAT IT READS IS OF BULK AT MOST 1048576: true; the input reads as it did. -/
def netCountsUptoRow : OpenClaim := { program := "ytnlaiiophongmaadoor", sum := "f79da9f271b018b9dcb48f57fbc48df48abf79137d1dd1f4da4eff2365cf99c8", func := "fusee/fuseelaw32.NetCounts", spec := "netCounts", inPlace := ["internal/reflectlite.ValueOf", "(internal/reflectlite.Value).Type", "(internal/reflectlite.Value).IsNil", "internal/reflectlite.TypeOf", "(internal/reflectlite.Value).Elem", "(internal/reflectlite.Value).Set"], unfollowed := true, recurses := true, named := ["errors.errorType"], apart := false, laid := [("errors.errorType", laid_errors_errorType)], narrowed := true }
def NetCountsUptoSaid : Prop := netCountsUptoRow.holds Tryd.pinned (OpenSpec.upto netCountsSpec)

/-- 'fuseelaw26.FloorTells', WHERE WHAT IT READS IS OF BULK AT MOST 1048576: true; the input reads as it did. -/
def floorTellsUptoRow : OpenClaim := { program := "ytnlaiiophongmaadoor", sum := "f79da9f271b018b9dcb48f57fbc48df48abf79137d1dd1f4da4eff2365cf99c8", func := "fusee/fuseelaw26.FloorTells", spec := "floorTells", inPlace := ["internal/reflectlite.ValueOf", "(internal/reflectlite.Value).Type", "(internal/reflectlite.Value).IsNil", "internal/reflectlite.TypeOf", "(internal/reflectlite.Value).Elem", "(internal/reflectlite.Value).Set"], unfollowed := true, recurses := true, named := ["errors.errorType"], apart := false, laid := [("errors.errorType", laid_errors_errorType)], narrowed := true }
def FloorTellsUptoSaid : Prop := floorTellsUptoRow.holds Tryd.pinned (OpenSpec.upto floorTellsSpec)

/-- 'fuseelaw26.FloorHolds', WHERE WHAT IT READS IS OF BULK AT MOST 1048576: true; the input reads as it did. -/
def floorHoldsUptoRow : OpenClaim := { program := "ytnlaiiophongmaadoor", sum := "f79da9f271b018b9dcb48f57fbc48df48abf79137d1dd1f4da4eff2365cf99c8", func := "fusee/fuseelaw26.FloorHolds", spec := "floorHolds", inPlace := ["internal/reflectlite.ValueOf", "(internal/reflectlite.Value).Type", "(internal/reflectlite.Value).IsNil", "internal/reflectlite.TypeOf", "(internal/reflectlite.Value).Elem", "(internal/reflectlite.Value).Set"], unfollowed := true, recurses := true, named := ["errors.errorType"], apart := false, laid := [("errors.errorType", laid_errors_errorType)], narrowed := true }
def FloorHoldsUptoSaid : Prop := floorHoldsUptoRow.holds Tryd.pinned (OpenSpec.upto floorHoldsSpec)

/-- 'fuseelaw09.LeapDays', WHERE WHAT IT READS IS OF BULK AT MOST 1048576: true; the input reads as it did. -/
def leapDaysUptoRow : OpenClaim := { program := "ytnlaiiophongmaadoor", sum := "f79da9f271b018b9dcb48f57fbc48df48abf79137d1dd1f4da4eff2365cf99c8", func := "fusee/fuseelaw09.LeapDays", spec := "leapDays", inPlace := ["internal/reflectlite.ValueOf", "(internal/reflectlite.Value).Type", "(internal/reflectlite.Value).IsNil", "internal/reflectlite.TypeOf", "(internal/reflectlite.Value).Elem", "(internal/reflectlite.Value).Set"], unfollowed := true, recurses := true, named := ["errors.errorType"], apart := false, laid := [("errors.errorType", laid_errors_errorType)], narrowed := true }
def LeapDaysUptoSaid : Prop := leapDaysUptoRow.holds Tryd.pinned (OpenSpec.upto leapDaysSpec)

/-- 'fuseelaw09.LeapMore', WHERE WHAT IT READS IS OF BULK AT MOST 1048576: true; the input reads as it did. -/
def leapMoreUptoRow : OpenClaim := { program := "ytnlaiiophongmaadoor", sum := "f79da9f271b018b9dcb48f57fbc48df48abf79137d1dd1f4da4eff2365cf99c8", func := "fusee/fuseelaw09.LeapMore", spec := "leapMore", inPlace := ["internal/reflectlite.ValueOf", "(internal/reflectlite.Value).Type", "(internal/reflectlite.Value).IsNil", "internal/reflectlite.TypeOf", "(internal/reflectlite.Value).Elem", "(internal/reflectlite.Value).Set"], unfollowed := true, recurses := true, named := ["errors.errorType"], apart := false, laid := [("errors.errorType", laid_errors_errorType)], narrowed := true }
def LeapMoreUptoSaid : Prop := leapMoreUptoRow.holds Tryd.pinned (OpenSpec.upto leapMoreSpec)

/-- 'fuseelaw09.LeapMoments', WHERE WHAT IT READS IS OF BULK AT MOST 1048576: true; the input reads as it did. -/
def leapMomentsUptoRow : OpenClaim := { program := "ytnlaiiophongmaadoor", sum := "f79da9f271b018b9dcb48f57fbc48df48abf79137d1dd1f4da4eff2365cf99c8", func := "fusee/fuseelaw09.LeapMoments", spec := "leapMoments", inPlace := ["internal/reflectlite.ValueOf", "(internal/reflectlite.Value).Type", "(internal/reflectlite.Value).IsNil", "internal/reflectlite.TypeOf", "(internal/reflectlite.Value).Elem", "(internal/reflectlite.Value).Set"], unfollowed := true, recurses := true, named := ["errors.errorType"], apart := false, laid := [("errors.errorType", laid_errors_errorType)], narrowed := true }
def LeapMomentsUptoSaid : Prop := leapMomentsUptoRow.holds Tryd.pinned (OpenSpec.upto leapMomentsSpec)

/-- 'fuseelaw09.LeapBack', WHERE WHAT IT READS IS OF BULK AT MOST 1048576: true; the input reads as it did. -/
def leapBackUptoRow : OpenClaim := { program := "ytnlaiiophongmaadoor", sum := "f79da9f271b018b9dcb48f57fbc48df48abf79137d1dd1f4da4eff2365cf99c8", func := "fusee/fuseelaw09.LeapBack", spec := "leapBack", inPlace := ["internal/reflectlite.ValueOf", "(internal/reflectlite.Value).Type", "(internal/reflectlite.Value).IsNil", "internal/reflectlite.TypeOf", "(internal/reflectlite.Value).Elem", "(internal/reflectlite.Value).Set"], unfollowed := true, recurses := true, named := ["errors.errorType"], apart := false, laid := [("errors.errorType", laid_errors_errorType)], narrowed := true }
def LeapBackUptoSaid : Prop := leapBackUptoRow.holds Tryd.pinned (OpenSpec.upto leapBackSpec)

/-- 'fuseelaw09.LeapForms', WHERE WHAT IT READS IS OF BULK AT MOST 1048576: true; the input reads as it did. -/
def leapFormsUptoRow : OpenClaim := { program := "ytnlaiiophongmaadoor", sum := "f79da9f271b018b9dcb48f57fbc48df48abf79137d1dd1f4da4eff2365cf99c8", func := "fusee/fuseelaw09.LeapForms", spec := "leapForms", inPlace := ["internal/reflectlite.ValueOf", "(internal/reflectlite.Value).Type", "(internal/reflectlite.Value).IsNil", "internal/reflectlite.TypeOf", "(internal/reflectlite.Value).Elem", "(internal/reflectlite.Value).Set"], unfollowed := true, recurses := true, named := ["errors.errorType"], apart := false, laid := [("errors.errorType", laid_errors_errorType)], narrowed := true }
def LeapFormsUptoSaid : Prop := leapFormsUptoRow.holds Tryd.pinned (OpenSpec.upto leapFormsSpec)

end Rows
end Go.Proofs.YtnlaiiophongmaaDoor
