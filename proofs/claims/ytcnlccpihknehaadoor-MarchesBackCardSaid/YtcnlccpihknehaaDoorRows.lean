/-
  NARROWER THAN 'FOR EVERY INPUT', by the rows' own cells (each row's printed sentence says how): MarchesRefused: laid · MarchesNamed: laid · MarchesCheck: laid · MarchesBack: laid · MarchesTurned: laid · MarchrunsRun: laid · MarchrunsBest: laid · MarchrunsKnown: laid · MarchrunsDetects: laid · MarchrunsTable: laid · MarchrunsLonger: laid · MarchrunsReverse: laid · MarchrunsInverse: laid.
  DERIVED. THE GIVEN ROWS OF THIS SEAT. 13 by the template 'for every input the law returns true; each argument reads behind the call as it read before'; 0 by the template 'total and deterministic' (their statements: YtcnlccpihknehaaDoorTotals.lean).
  GIVEN WITH THE SEED: the statements are not yours to turn. If you find one false, say at which input.
  Laid BY PROGRAM, IN A SANDBOX (cutbox-rows.mjs): the forced cells as the released guide's own fill.sh prints them over the translation dd8e2e0ef7e7676f… (all of the seat's roots in one cut). By AI agents, Wed Nov 11 2026. No macro, syntax, notation, axiom, sorry.
-/
import Derived.Test.YtcnlccpihknehaaDoorChecked
import GoSem.Claim
import GoSem.ClaimJoined
import GoSem.ClaimMapViews
import Derived.JoinedTies
import Derived.KernelRfl
namespace Go.Proofs.YtcnlccpihknehaaDoor
/- THE CELL 'sum', in the pinned program and in every row, IS THE sha256 OF THE DUMP (.gsa) THAT YtcnlccpihknehaaDoorProg.lean LOADS. Nothing in Lean hashes anything: it is a label: what it is worth is what the hold of that sum in a sandbox is worth. -/
noncomputable def Tryd.pinned : Pinned := { name := "ytcnlccpihknehaadoor", sum := "dd8e2e0ef7e7676f66d28102b97e3503bdb0b5c8695a2a5561c2372931707eab", checked := Tryd.checked }
namespace Rows
def none {H : Type} : Left H := { results := [], args := [] }

/- WHAT THE LISTED PACKAGE-LEVEL VARIABLES READ AS WHEN THE CALL BEGINS. Each datum BY PROGRAM (the guide's laid-datum.mjs) off the statement by which the dump's own 'gosem.cut.vars' lays the variable. In a bare row this is a premise. The card (YtcnlccpihknehaaDoorCards.lean) ties it to the program's text. -/
def laid_probecard_marches_table {H : Type} : DataW H := .agg [.agg [.lit (.string [77, 65, 84, 83, 43]), .lit (.string [97, 110, 121, 40, 119, 48, 41, 59, 32, 117, 112, 40, 114, 48, 44, 119, 49, 41, 59, 32, 100, 111, 119, 110, 40, 114, 49, 44, 119, 48, 41])], .agg [.lit (.string [77, 65, 84, 83, 43, 43]), .lit (.string [97, 110, 121, 40, 119, 48, 41, 59, 32, 117, 112, 40, 114, 48, 44, 119, 49, 41, 59, 32, 100, 111, 119, 110, 40, 114, 49, 44, 119, 48, 44, 114, 48, 41])], .agg [.lit (.string [77, 97, 114, 99, 104, 32, 88]), .lit (.string [97, 110, 121, 40, 119, 48, 41, 59, 32, 117, 112, 40, 114, 48, 44, 119, 49, 41, 59, 32, 100, 111, 119, 110, 40, 114, 49, 44, 119, 48, 41, 59, 32, 97, 110, 121, 40, 114, 48, 41])], .agg [.lit (.string [77, 97, 114, 99, 104, 32, 89]), .lit (.string [97, 110, 121, 40, 119, 48, 41, 59, 32, 117, 112, 40, 114, 48, 44, 119, 49, 44, 114, 49, 41, 59, 32, 100, 111, 119, 110, 40, 114, 49, 44, 119, 48, 44, 114, 48, 41, 59, 32, 97, 110, 121, 40, 114, 48, 41])], .agg [.lit (.string [77, 97, 114, 99, 104, 32, 67, 45]), .lit (.string [97, 110, 121, 40, 119, 48, 41, 59, 32, 117, 112, 40, 114, 48, 44, 119, 49, 41, 59, 32, 117, 112, 40, 114, 49, 44, 119, 48, 41, 59, 32, 100, 111, 119, 110, 40, 114, 48, 44, 119, 49, 41, 59, 32, 100, 111, 119, 110, 40, 114, 49, 44, 119, 48, 41, 59, 32, 97, 110, 121, 40, 114, 48, 41])], .agg [.lit (.string [77, 97, 114, 99, 104, 32, 65]), .lit (.string [97, 110, 121, 40, 119, 48, 41, 59, 32, 117, 112, 40, 114, 48, 44, 119, 49, 44, 119, 48, 44, 119, 49, 41, 59, 32, 117, 112, 40, 114, 49, 44, 119, 48, 44, 119, 49, 41, 59, 32, 100, 111, 119, 110, 40, 114, 49, 44, 119, 48, 44, 119, 49, 44, 119, 48, 41, 59, 32, 100, 111, 119, 110, 40, 114, 48, 44, 119, 49, 44, 119, 48, 41])], .agg [.lit (.string [77, 97, 114, 99, 104, 32, 66]), .lit (.string [97, 110, 121, 40, 119, 48, 41, 59, 32, 117, 112, 40, 114, 48, 44, 119, 49, 44, 114, 49, 44, 119, 48, 44, 114, 48, 44, 119, 49, 41, 59, 32, 117, 112, 40, 114, 49, 44, 119, 48, 44, 119, 49, 41, 59, 32, 100, 111, 119, 110, 40, 114, 49, 44, 119, 48, 44, 119, 49, 44, 119, 48, 41, 59, 32, 100, 111, 119, 110, 40, 114, 48, 44, 119, 49, 44, 119, 48, 41])]]

/-- 'probecardlaw37.MarchesRefused': WHATEVER THE INPUT: true; the input reads as it did. -/
def marchesRefusedSpec : ChangeSpec := { name := "marchesRefused", fn := fun _ => fun
  | [d1, d2] => { results := [.lit (.bool true)], args := [d1, d2] }
  | _ => none }
def marchesRefusedRow : OpenClaim := { program := "ytcnlccpihknehaadoor", sum := "dd8e2e0ef7e7676f66d28102b97e3503bdb0b5c8695a2a5561c2372931707eab", func := "probecard/probecardlaw37.MarchesRefused", spec := "marchesRefused", inPlace := ["internal/abi.NoEscape", "internal/bytealg.MakeNoZero"], unfollowed := true, recurses := true, named := ["probecard/marches.table"], apart := false, laid := [("probecard/marches.table", laid_probecard_marches_table)] }
def MarchesRefusedSaid : Prop := marchesRefusedRow.holds Tryd.pinned (OpenSpec.ofChange marchesRefusedSpec)

/-- ITS FALSE NEIGHBOUR: 'it returns false'. Refute it at one input. -/
def marchesRefusedWrong : ChangeSpec := { name := "marchesRefused", fn := fun _ => fun
  | [d1, d2] => { results := [.lit (.bool false)], args := [d1, d2] }
  | _ => none }
def MarchesRefusedWrongFalsely : Prop := marchesRefusedRow.holds Tryd.pinned (OpenSpec.ofChange marchesRefusedWrong)

/-- 'probecardlaw37.MarchesNamed': WHATEVER THE INPUT: true; the input reads as it did. -/
def marchesNamedSpec : ChangeSpec := { name := "marchesNamed", fn := fun _ => fun
  | [d] => { results := [.lit (.bool true)], args := [d] }
  | _ => none }
def marchesNamedRow : OpenClaim := { program := "ytcnlccpihknehaadoor", sum := "dd8e2e0ef7e7676f66d28102b97e3503bdb0b5c8695a2a5561c2372931707eab", func := "probecard/probecardlaw37.MarchesNamed", spec := "marchesNamed", inPlace := ["internal/abi.NoEscape", "internal/bytealg.MakeNoZero"], unfollowed := true, recurses := true, named := ["probecard/marches.table"], apart := false, laid := [("probecard/marches.table", laid_probecard_marches_table)] }
def MarchesNamedSaid : Prop := marchesNamedRow.holds Tryd.pinned (OpenSpec.ofChange marchesNamedSpec)

/-- ITS FALSE NEIGHBOUR: 'it returns false'. Refute it at one input. -/
def marchesNamedWrong : ChangeSpec := { name := "marchesNamed", fn := fun _ => fun
  | [d] => { results := [.lit (.bool false)], args := [d] }
  | _ => none }
def MarchesNamedWrongFalsely : Prop := marchesNamedRow.holds Tryd.pinned (OpenSpec.ofChange marchesNamedWrong)

/-- 'probecardlaw37.MarchesCheck': WHATEVER THE INPUT: true; the input reads as it did. -/
def marchesCheckSpec : ChangeSpec := { name := "marchesCheck", fn := fun _ => fun
  | [d] => { results := [.lit (.bool true)], args := [d] }
  | _ => none }
def marchesCheckRow : OpenClaim := { program := "ytcnlccpihknehaadoor", sum := "dd8e2e0ef7e7676f66d28102b97e3503bdb0b5c8695a2a5561c2372931707eab", func := "probecard/probecardlaw37.MarchesCheck", spec := "marchesCheck", inPlace := ["internal/abi.NoEscape", "internal/bytealg.MakeNoZero"], unfollowed := true, recurses := true, named := ["probecard/marches.table"], apart := false, laid := [("probecard/marches.table", laid_probecard_marches_table)] }
def MarchesCheckSaid : Prop := marchesCheckRow.holds Tryd.pinned (OpenSpec.ofChange marchesCheckSpec)

/-- ITS FALSE NEIGHBOUR: 'it returns false'. Refute it at one input. -/
def marchesCheckWrong : ChangeSpec := { name := "marchesCheck", fn := fun _ => fun
  | [d] => { results := [.lit (.bool false)], args := [d] }
  | _ => none }
def MarchesCheckWrongFalsely : Prop := marchesCheckRow.holds Tryd.pinned (OpenSpec.ofChange marchesCheckWrong)

/-- 'probecardlaw37.MarchesBack': WHATEVER THE INPUT: true; the input reads as it did. -/
def marchesBackSpec : ChangeSpec := { name := "marchesBack", fn := fun _ => fun
  | [d1, d2] => { results := [.lit (.bool true)], args := [d1, d2] }
  | _ => none }
def marchesBackRow : OpenClaim := { program := "ytcnlccpihknehaadoor", sum := "dd8e2e0ef7e7676f66d28102b97e3503bdb0b5c8695a2a5561c2372931707eab", func := "probecard/probecardlaw37.MarchesBack", spec := "marchesBack", inPlace := ["internal/abi.NoEscape", "internal/bytealg.MakeNoZero"], unfollowed := true, recurses := true, named := ["probecard/marches.table"], apart := false, laid := [("probecard/marches.table", laid_probecard_marches_table)] }
def MarchesBackSaid : Prop := marchesBackRow.holds Tryd.pinned (OpenSpec.ofChange marchesBackSpec)

/-- ITS FALSE NEIGHBOUR: 'it returns false'. Refute it at one input. -/
def marchesBackWrong : ChangeSpec := { name := "marchesBack", fn := fun _ => fun
  | [d1, d2] => { results := [.lit (.bool false)], args := [d1, d2] }
  | _ => none }
def MarchesBackWrongFalsely : Prop := marchesBackRow.holds Tryd.pinned (OpenSpec.ofChange marchesBackWrong)

/-- 'probecardlaw37.MarchesTurned': WHATEVER THE INPUT: true; the input reads as it did. -/
def marchesTurnedSpec : ChangeSpec := { name := "marchesTurned", fn := fun _ => fun
  | [d] => { results := [.lit (.bool true)], args := [d] }
  | _ => none }
def marchesTurnedRow : OpenClaim := { program := "ytcnlccpihknehaadoor", sum := "dd8e2e0ef7e7676f66d28102b97e3503bdb0b5c8695a2a5561c2372931707eab", func := "probecard/probecardlaw37.MarchesTurned", spec := "marchesTurned", inPlace := ["internal/abi.NoEscape", "internal/bytealg.MakeNoZero"], unfollowed := true, recurses := true, named := ["probecard/marches.table"], apart := false, laid := [("probecard/marches.table", laid_probecard_marches_table)] }
def MarchesTurnedSaid : Prop := marchesTurnedRow.holds Tryd.pinned (OpenSpec.ofChange marchesTurnedSpec)

/-- ITS FALSE NEIGHBOUR: 'it returns false'. Refute it at one input. -/
def marchesTurnedWrong : ChangeSpec := { name := "marchesTurned", fn := fun _ => fun
  | [d] => { results := [.lit (.bool false)], args := [d] }
  | _ => none }
def MarchesTurnedWrongFalsely : Prop := marchesTurnedRow.holds Tryd.pinned (OpenSpec.ofChange marchesTurnedWrong)

/-- 'probecardlaw39.MarchrunsRun': WHATEVER THE INPUT: true; the input reads as it did. -/
def marchrunsRunSpec : ChangeSpec := { name := "marchrunsRun", fn := fun _ => fun
  | [d1, d2, d3] => { results := [.lit (.bool true)], args := [d1, d2, d3] }
  | _ => none }
def marchrunsRunRow : OpenClaim := { program := "ytcnlccpihknehaadoor", sum := "dd8e2e0ef7e7676f66d28102b97e3503bdb0b5c8695a2a5561c2372931707eab", func := "probecard/probecardlaw39.MarchrunsRun", spec := "marchrunsRun", unfollowed := true, recurses := true, named := ["probecard/marches.table"], apart := false, laid := [("probecard/marches.table", laid_probecard_marches_table)] }
def MarchrunsRunSaid : Prop := marchrunsRunRow.holds Tryd.pinned (OpenSpec.ofChange marchrunsRunSpec)

/-- ITS FALSE NEIGHBOUR: 'it returns false'. Refute it at one input. -/
def marchrunsRunWrong : ChangeSpec := { name := "marchrunsRun", fn := fun _ => fun
  | [d1, d2, d3] => { results := [.lit (.bool false)], args := [d1, d2, d3] }
  | _ => none }
def MarchrunsRunWrongFalsely : Prop := marchrunsRunRow.holds Tryd.pinned (OpenSpec.ofChange marchrunsRunWrong)

/-- 'probecardlaw39.MarchrunsBest': WHATEVER THE INPUT: true; the input reads as it did. -/
def marchrunsBestSpec : ChangeSpec := { name := "marchrunsBest", fn := fun _ => fun
  | [d1, d2, d3] => { results := [.lit (.bool true)], args := [d1, d2, d3] }
  | _ => none }
def marchrunsBestRow : OpenClaim := { program := "ytcnlccpihknehaadoor", sum := "dd8e2e0ef7e7676f66d28102b97e3503bdb0b5c8695a2a5561c2372931707eab", func := "probecard/probecardlaw39.MarchrunsBest", spec := "marchrunsBest", unfollowed := true, recurses := true, named := ["probecard/marches.table"], apart := false, laid := [("probecard/marches.table", laid_probecard_marches_table)] }
def MarchrunsBestSaid : Prop := marchrunsBestRow.holds Tryd.pinned (OpenSpec.ofChange marchrunsBestSpec)

/-- ITS FALSE NEIGHBOUR: 'it returns false'. Refute it at one input. -/
def marchrunsBestWrong : ChangeSpec := { name := "marchrunsBest", fn := fun _ => fun
  | [d1, d2, d3] => { results := [.lit (.bool false)], args := [d1, d2, d3] }
  | _ => none }
def MarchrunsBestWrongFalsely : Prop := marchrunsBestRow.holds Tryd.pinned (OpenSpec.ofChange marchrunsBestWrong)

/-- 'probecardlaw39.MarchrunsKnown': WHATEVER THE INPUT: true; the input reads as it did. -/
def marchrunsKnownSpec : ChangeSpec := { name := "marchrunsKnown", fn := fun _ => fun
  | [] => { results := [.lit (.bool true)], args := [] }
  | _ => none }
def marchrunsKnownRow : OpenClaim := { program := "ytcnlccpihknehaadoor", sum := "dd8e2e0ef7e7676f66d28102b97e3503bdb0b5c8695a2a5561c2372931707eab", func := "probecard/probecardlaw39.MarchrunsKnown", spec := "marchrunsKnown", unfollowed := true, recurses := true, named := ["probecard/marches.table"], apart := false, laid := [("probecard/marches.table", laid_probecard_marches_table)] }
def MarchrunsKnownSaid : Prop := marchrunsKnownRow.holds Tryd.pinned (OpenSpec.ofChange marchrunsKnownSpec)

/-- ITS FALSE NEIGHBOUR: 'it returns false'. Refute it at one input. -/
def marchrunsKnownWrong : ChangeSpec := { name := "marchrunsKnown", fn := fun _ => fun
  | [] => { results := [.lit (.bool false)], args := [] }
  | _ => none }
def MarchrunsKnownWrongFalsely : Prop := marchrunsKnownRow.holds Tryd.pinned (OpenSpec.ofChange marchrunsKnownWrong)

/-- 'probecardlaw39.MarchrunsDetects': WHATEVER THE INPUT: true; the input reads as it did. -/
def marchrunsDetectsSpec : ChangeSpec := { name := "marchrunsDetects", fn := fun _ => fun
  | [d1, d2] => { results := [.lit (.bool true)], args := [d1, d2] }
  | _ => none }
def marchrunsDetectsRow : OpenClaim := { program := "ytcnlccpihknehaadoor", sum := "dd8e2e0ef7e7676f66d28102b97e3503bdb0b5c8695a2a5561c2372931707eab", func := "probecard/probecardlaw39.MarchrunsDetects", spec := "marchrunsDetects", unfollowed := true, recurses := true, named := ["probecard/marches.table"], apart := false, laid := [("probecard/marches.table", laid_probecard_marches_table)] }
def MarchrunsDetectsSaid : Prop := marchrunsDetectsRow.holds Tryd.pinned (OpenSpec.ofChange marchrunsDetectsSpec)

/-- ITS FALSE NEIGHBOUR: 'it returns false'. Refute it at one input. -/
def marchrunsDetectsWrong : ChangeSpec := { name := "marchrunsDetects", fn := fun _ => fun
  | [d1, d2] => { results := [.lit (.bool false)], args := [d1, d2] }
  | _ => none }
def MarchrunsDetectsWrongFalsely : Prop := marchrunsDetectsRow.holds Tryd.pinned (OpenSpec.ofChange marchrunsDetectsWrong)

/-- 'probecardlaw39.MarchrunsTable': WHATEVER THE INPUT: true; the input reads as it did. -/
def marchrunsTableSpec : ChangeSpec := { name := "marchrunsTable", fn := fun _ => fun
  | [d1, d2] => { results := [.lit (.bool true)], args := [d1, d2] }
  | _ => none }
def marchrunsTableRow : OpenClaim := { program := "ytcnlccpihknehaadoor", sum := "dd8e2e0ef7e7676f66d28102b97e3503bdb0b5c8695a2a5561c2372931707eab", func := "probecard/probecardlaw39.MarchrunsTable", spec := "marchrunsTable", unfollowed := true, recurses := true, named := ["probecard/marches.table"], apart := false, laid := [("probecard/marches.table", laid_probecard_marches_table)] }
def MarchrunsTableSaid : Prop := marchrunsTableRow.holds Tryd.pinned (OpenSpec.ofChange marchrunsTableSpec)

/-- ITS FALSE NEIGHBOUR: 'it returns false'. Refute it at one input. -/
def marchrunsTableWrong : ChangeSpec := { name := "marchrunsTable", fn := fun _ => fun
  | [d1, d2] => { results := [.lit (.bool false)], args := [d1, d2] }
  | _ => none }
def MarchrunsTableWrongFalsely : Prop := marchrunsTableRow.holds Tryd.pinned (OpenSpec.ofChange marchrunsTableWrong)

/-- 'probecardlaw39.MarchrunsLonger': WHATEVER THE INPUT: true; the input reads as it did. -/
def marchrunsLongerSpec : ChangeSpec := { name := "marchrunsLonger", fn := fun _ => fun
  | [d1, d2, d3] => { results := [.lit (.bool true)], args := [d1, d2, d3] }
  | _ => none }
def marchrunsLongerRow : OpenClaim := { program := "ytcnlccpihknehaadoor", sum := "dd8e2e0ef7e7676f66d28102b97e3503bdb0b5c8695a2a5561c2372931707eab", func := "probecard/probecardlaw39.MarchrunsLonger", spec := "marchrunsLonger", unfollowed := true, recurses := true, named := ["probecard/marches.table"], apart := false, laid := [("probecard/marches.table", laid_probecard_marches_table)] }
def MarchrunsLongerSaid : Prop := marchrunsLongerRow.holds Tryd.pinned (OpenSpec.ofChange marchrunsLongerSpec)

/-- ITS FALSE NEIGHBOUR: 'it returns false'. Refute it at one input. -/
def marchrunsLongerWrong : ChangeSpec := { name := "marchrunsLonger", fn := fun _ => fun
  | [d1, d2, d3] => { results := [.lit (.bool false)], args := [d1, d2, d3] }
  | _ => none }
def MarchrunsLongerWrongFalsely : Prop := marchrunsLongerRow.holds Tryd.pinned (OpenSpec.ofChange marchrunsLongerWrong)

/-- 'probecardlaw39.MarchrunsReverse': WHATEVER THE INPUT: true; the input reads as it did. -/
def marchrunsReverseSpec : ChangeSpec := { name := "marchrunsReverse", fn := fun _ => fun
  | [d1, d2] => { results := [.lit (.bool true)], args := [d1, d2] }
  | _ => none }
def marchrunsReverseRow : OpenClaim := { program := "ytcnlccpihknehaadoor", sum := "dd8e2e0ef7e7676f66d28102b97e3503bdb0b5c8695a2a5561c2372931707eab", func := "probecard/probecardlaw39.MarchrunsReverse", spec := "marchrunsReverse", unfollowed := true, recurses := true, named := ["probecard/marches.table"], apart := false, laid := [("probecard/marches.table", laid_probecard_marches_table)] }
def MarchrunsReverseSaid : Prop := marchrunsReverseRow.holds Tryd.pinned (OpenSpec.ofChange marchrunsReverseSpec)

/-- ITS FALSE NEIGHBOUR: 'it returns false'. Refute it at one input. -/
def marchrunsReverseWrong : ChangeSpec := { name := "marchrunsReverse", fn := fun _ => fun
  | [d1, d2] => { results := [.lit (.bool false)], args := [d1, d2] }
  | _ => none }
def MarchrunsReverseWrongFalsely : Prop := marchrunsReverseRow.holds Tryd.pinned (OpenSpec.ofChange marchrunsReverseWrong)

/-- 'probecardlaw39.MarchrunsInverse': WHATEVER THE INPUT: true; the input reads as it did. -/
def marchrunsInverseSpec : ChangeSpec := { name := "marchrunsInverse", fn := fun _ => fun
  | [d1, d2] => { results := [.lit (.bool true)], args := [d1, d2] }
  | _ => none }
def marchrunsInverseRow : OpenClaim := { program := "ytcnlccpihknehaadoor", sum := "dd8e2e0ef7e7676f66d28102b97e3503bdb0b5c8695a2a5561c2372931707eab", func := "probecard/probecardlaw39.MarchrunsInverse", spec := "marchrunsInverse", unfollowed := true, recurses := true, named := ["probecard/marches.table"], apart := false, laid := [("probecard/marches.table", laid_probecard_marches_table)] }
def MarchrunsInverseSaid : Prop := marchrunsInverseRow.holds Tryd.pinned (OpenSpec.ofChange marchrunsInverseSpec)

/-- ITS FALSE NEIGHBOUR: 'it returns false'. Refute it at one input. -/
def marchrunsInverseWrong : ChangeSpec := { name := "marchrunsInverse", fn := fun _ => fun
  | [d1, d2] => { results := [.lit (.bool false)], args := [d1, d2] }
  | _ => none }
def MarchrunsInverseWrongFalsely : Prop := marchrunsInverseRow.holds Tryd.pinned (OpenSpec.ofChange marchrunsInverseWrong)

/- THE SECOND FORM. 'bulk': how many values and letters a reading holds, each counted each time it is reached (what is shared counts as often as it is met; a slice's spare places count too). A statement '..UptoSaid' is the law's where the arguments, and the package variables that the reading takes, are together of bulk at most 1048576: NARROWER than '..Said'. Prove '..Said' where nothing that the law and all that it calls make is longer than what came in: it says more and counts as full. Else prove '..UptoSaid'. A law counts once. -/
mutual
def uptoBulk {H : Type} : DataW H → Nat
  | .lit (.string bytes) => bytes.length + 1
  | .lit _ => 1
  | .nil => 1
  | .ptr d => uptoBulk d + 1
  | .slice elems spare => uptoBulkAll elems + uptoBulkAll spare + 1
  | .agg parts => uptoBulkAll parts + 1
  | .iface _ d => uptoBulk d + 1
  | .map entries => uptoBulkEntries entries + 1
  | .held _ => 1
def uptoBulkAll {H : Type} : List (DataW H) → Nat
  | [] => 0
  | d :: r => uptoBulk d + uptoBulkAll r
def uptoBulkEntries {H : Type} : List (Lit × DataW H) → Nat
  | [] => 0
  | x :: r => uptoBulkEntry x + uptoBulkEntries r
def uptoBulkEntry {H : Type} : Lit × DataW H → Nat
  | (.string bytes, d) => bytes.length + uptoBulk d + 1
  | (_, d) => uptoBulk d + 1
 end
def uptoSmall : (H : Type) → List (DataW H) → Bool := fun _ ds => decide (uptoBulkAll ds ≤ 1048576)
def OpenSpec.upto (s : _root_.Go.ChangeSpec) : _root_.Go.OpenSpec := { _root_.Go.OpenSpec.ofChange s with cond := some uptoSmall }

/-- 'probecardlaw37.MarchesRefused', WHERE WHAT IT READS IS OF BULK AT MOST 1048576: true; the input reads as it did. -/
def marchesRefusedUptoRow : OpenClaim := { program := "ytcnlccpihknehaadoor", sum := "dd8e2e0ef7e7676f66d28102b97e3503bdb0b5c8695a2a5561c2372931707eab", func := "probecard/probecardlaw37.MarchesRefused", spec := "marchesRefused", inPlace := ["internal/abi.NoEscape", "internal/bytealg.MakeNoZero"], unfollowed := true, recurses := true, named := ["probecard/marches.table"], apart := false, laid := [("probecard/marches.table", laid_probecard_marches_table)], narrowed := true }
def MarchesRefusedUptoSaid : Prop := marchesRefusedUptoRow.holds Tryd.pinned (OpenSpec.upto marchesRefusedSpec)

/-- 'probecardlaw37.MarchesNamed', WHERE WHAT IT READS IS OF BULK AT MOST 1048576: true; the input reads as it did. -/
def marchesNamedUptoRow : OpenClaim := { program := "ytcnlccpihknehaadoor", sum := "dd8e2e0ef7e7676f66d28102b97e3503bdb0b5c8695a2a5561c2372931707eab", func := "probecard/probecardlaw37.MarchesNamed", spec := "marchesNamed", inPlace := ["internal/abi.NoEscape", "internal/bytealg.MakeNoZero"], unfollowed := true, recurses := true, named := ["probecard/marches.table"], apart := false, laid := [("probecard/marches.table", laid_probecard_marches_table)], narrowed := true }
def MarchesNamedUptoSaid : Prop := marchesNamedUptoRow.holds Tryd.pinned (OpenSpec.upto marchesNamedSpec)

/-- 'probecardlaw37.MarchesCheck', WHERE WHAT IT READS IS OF BULK AT MOST 1048576: true; the input reads as it did. -/
def marchesCheckUptoRow : OpenClaim := { program := "ytcnlccpihknehaadoor", sum := "dd8e2e0ef7e7676f66d28102b97e3503bdb0b5c8695a2a5561c2372931707eab", func := "probecard/probecardlaw37.MarchesCheck", spec := "marchesCheck", inPlace := ["internal/abi.NoEscape", "internal/bytealg.MakeNoZero"], unfollowed := true, recurses := true, named := ["probecard/marches.table"], apart := false, laid := [("probecard/marches.table", laid_probecard_marches_table)], narrowed := true }
def MarchesCheckUptoSaid : Prop := marchesCheckUptoRow.holds Tryd.pinned (OpenSpec.upto marchesCheckSpec)

/-- 'probecardlaw37.MarchesBack', WHERE WHAT IT READS IS OF BULK AT MOST 1048576: true; the input reads as it did. -/
def marchesBackUptoRow : OpenClaim := { program := "ytcnlccpihknehaadoor", sum := "dd8e2e0ef7e7676f66d28102b97e3503bdb0b5c8695a2a5561c2372931707eab", func := "probecard/probecardlaw37.MarchesBack", spec := "marchesBack", inPlace := ["internal/abi.NoEscape", "internal/bytealg.MakeNoZero"], unfollowed := true, recurses := true, named := ["probecard/marches.table"], apart := false, laid := [("probecard/marches.table", laid_probecard_marches_table)], narrowed := true }
def MarchesBackUptoSaid : Prop := marchesBackUptoRow.holds Tryd.pinned (OpenSpec.upto marchesBackSpec)

/-- 'probecardlaw37.MarchesTurned', WHERE WHAT IT READS IS OF BULK AT MOST 1048576: true; the input reads as it did. -/
def marchesTurnedUptoRow : OpenClaim := { program := "ytcnlccpihknehaadoor", sum := "dd8e2e0ef7e7676f66d28102b97e3503bdb0b5c8695a2a5561c2372931707eab", func := "probecard/probecardlaw37.MarchesTurned", spec := "marchesTurned", inPlace := ["internal/abi.NoEscape", "internal/bytealg.MakeNoZero"], unfollowed := true, recurses := true, named := ["probecard/marches.table"], apart := false, laid := [("probecard/marches.table", laid_probecard_marches_table)], narrowed := true }
def MarchesTurnedUptoSaid : Prop := marchesTurnedUptoRow.holds Tryd.pinned (OpenSpec.upto marchesTurnedSpec)

/-- 'probecardlaw39.MarchrunsRun', WHERE WHAT IT READS IS OF BULK AT MOST 1048576: true; the input reads as it did. -/
def marchrunsRunUptoRow : OpenClaim := { program := "ytcnlccpihknehaadoor", sum := "dd8e2e0ef7e7676f66d28102b97e3503bdb0b5c8695a2a5561c2372931707eab", func := "probecard/probecardlaw39.MarchrunsRun", spec := "marchrunsRun", unfollowed := true, recurses := true, named := ["probecard/marches.table"], apart := false, laid := [("probecard/marches.table", laid_probecard_marches_table)], narrowed := true }
def MarchrunsRunUptoSaid : Prop := marchrunsRunUptoRow.holds Tryd.pinned (OpenSpec.upto marchrunsRunSpec)

/-- 'probecardlaw39.MarchrunsBest', WHERE WHAT IT READS IS OF BULK AT MOST 1048576: true; the input reads as it did. -/
def marchrunsBestUptoRow : OpenClaim := { program := "ytcnlccpihknehaadoor", sum := "dd8e2e0ef7e7676f66d28102b97e3503bdb0b5c8695a2a5561c2372931707eab", func := "probecard/probecardlaw39.MarchrunsBest", spec := "marchrunsBest", unfollowed := true, recurses := true, named := ["probecard/marches.table"], apart := false, laid := [("probecard/marches.table", laid_probecard_marches_table)], narrowed := true }
def MarchrunsBestUptoSaid : Prop := marchrunsBestUptoRow.holds Tryd.pinned (OpenSpec.upto marchrunsBestSpec)

/-- 'probecardlaw39.MarchrunsKnown', WHERE WHAT IT READS IS OF BULK AT MOST 1048576: true; the input reads as it did. -/
def marchrunsKnownUptoRow : OpenClaim := { program := "ytcnlccpihknehaadoor", sum := "dd8e2e0ef7e7676f66d28102b97e3503bdb0b5c8695a2a5561c2372931707eab", func := "probecard/probecardlaw39.MarchrunsKnown", spec := "marchrunsKnown", unfollowed := true, recurses := true, named := ["probecard/marches.table"], apart := false, laid := [("probecard/marches.table", laid_probecard_marches_table)], narrowed := true }
def MarchrunsKnownUptoSaid : Prop := marchrunsKnownUptoRow.holds Tryd.pinned (OpenSpec.upto marchrunsKnownSpec)

/-- 'probecardlaw39.MarchrunsDetects', WHERE WHAT IT READS IS OF BULK AT MOST 1048576: true; the input reads as it did. -/
def marchrunsDetectsUptoRow : OpenClaim := { program := "ytcnlccpihknehaadoor", sum := "dd8e2e0ef7e7676f66d28102b97e3503bdb0b5c8695a2a5561c2372931707eab", func := "probecard/probecardlaw39.MarchrunsDetects", spec := "marchrunsDetects", unfollowed := true, recurses := true, named := ["probecard/marches.table"], apart := false, laid := [("probecard/marches.table", laid_probecard_marches_table)], narrowed := true }
def MarchrunsDetectsUptoSaid : Prop := marchrunsDetectsUptoRow.holds Tryd.pinned (OpenSpec.upto marchrunsDetectsSpec)

/-- 'probecardlaw39.MarchrunsTable', WHERE WHAT IT READS IS OF BULK AT MOST 1048576: true; the input reads as it did. -/
def marchrunsTableUptoRow : OpenClaim := { program := "ytcnlccpihknehaadoor", sum := "dd8e2e0ef7e7676f66d28102b97e3503bdb0b5c8695a2a5561c2372931707eab", func := "probecard/probecardlaw39.MarchrunsTable", spec := "marchrunsTable", unfollowed := true, recurses := true, named := ["probecard/marches.table"], apart := false, laid := [("probecard/marches.table", laid_probecard_marches_table)], narrowed := true }
def MarchrunsTableUptoSaid : Prop := marchrunsTableUptoRow.holds Tryd.pinned (OpenSpec.upto marchrunsTableSpec)

/-- 'probecardlaw39.MarchrunsLonger', WHERE WHAT IT READS IS OF BULK AT MOST 1048576: true; the input reads as it did. -/
def marchrunsLongerUptoRow : OpenClaim := { program := "ytcnlccpihknehaadoor", sum := "dd8e2e0ef7e7676f66d28102b97e3503bdb0b5c8695a2a5561c2372931707eab", func := "probecard/probecardlaw39.MarchrunsLonger", spec := "marchrunsLonger", unfollowed := true, recurses := true, named := ["probecard/marches.table"], apart := false, laid := [("probecard/marches.table", laid_probecard_marches_table)], narrowed := true }
def MarchrunsLongerUptoSaid : Prop := marchrunsLongerUptoRow.holds Tryd.pinned (OpenSpec.upto marchrunsLongerSpec)

/-- 'probecardlaw39.MarchrunsReverse', WHERE WHAT IT READS IS OF BULK AT MOST 1048576: true; the input reads as it did. -/
def marchrunsReverseUptoRow : OpenClaim := { program := "ytcnlccpihknehaadoor", sum := "dd8e2e0ef7e7676f66d28102b97e3503bdb0b5c8695a2a5561c2372931707eab", func := "probecard/probecardlaw39.MarchrunsReverse", spec := "marchrunsReverse", unfollowed := true, recurses := true, named := ["probecard/marches.table"], apart := false, laid := [("probecard/marches.table", laid_probecard_marches_table)], narrowed := true }
def MarchrunsReverseUptoSaid : Prop := marchrunsReverseUptoRow.holds Tryd.pinned (OpenSpec.upto marchrunsReverseSpec)

/-- 'probecardlaw39.MarchrunsInverse', WHERE WHAT IT READS IS OF BULK AT MOST 1048576: true; the input reads as it did. -/
def marchrunsInverseUptoRow : OpenClaim := { program := "ytcnlccpihknehaadoor", sum := "dd8e2e0ef7e7676f66d28102b97e3503bdb0b5c8695a2a5561c2372931707eab", func := "probecard/probecardlaw39.MarchrunsInverse", spec := "marchrunsInverse", unfollowed := true, recurses := true, named := ["probecard/marches.table"], apart := false, laid := [("probecard/marches.table", laid_probecard_marches_table)], narrowed := true }
def MarchrunsInverseUptoSaid : Prop := marchrunsInverseUptoRow.holds Tryd.pinned (OpenSpec.upto marchrunsInverseSpec)

end Rows
end Go.Proofs.YtcnlccpihknehaaDoor
