/-
  NARROWER THAN 'FOR EVERY INPUT', by the rows' own cells (each row's printed sentence says how): TopClass: laid · TopColumns: laid.
  DERIVED. THE GIVEN ROWS OF THIS SEAT. 2 by the template 'for every input the law returns true; each argument reads behind the call as it read before'; 0 by the template 'total and deterministic' (their statements: YtpbplpgfloaaiaaGreatDoorTotals.lean).
  GIVEN WITH THE SEED: the statements are not yours to turn. If you find one false, say at which input.
  Laid BY PROGRAM, IN A SANDBOX (cutbox-rows.mjs): the forced cells as the released guide's own fill.sh prints them over the translation f9d2e24ae2d4887b… (all of the seat's roots in one cut). By AI agents, Wed Nov 11 2026. No macro, syntax, notation, axiom, sorry.
-/
import Derived.Test.YtpbplpgfloaaiaaGreatDoorChecked
import GoSem.Claim
import GoSem.ClaimJoined
import GoSem.ClaimMapViews
import Derived.JoinedTies
import Derived.KernelRfl
namespace Go.Proofs.YtpbplpgfloaaiaaGreatDoor
/- THE CELL 'sum', in the pinned program and in every row, IS THE sha256 OF THE DUMP (.gsa) THAT YtpbplpgfloaaiaaGreatDoorProg.lean LOADS. Nothing in Lean hashes anything: it is a label: what it is worth is what the hold of that sum in a sandbox is worth. -/
noncomputable def Tryz.pinned : Pinned := { name := "ytpbplpgfloaaiaagreatdoor", sum := "f9d2e24ae2d4887b456c8fe6935511d4368da222dc737ad9c167cabdac1ef8d0", checked := Tryz.checked }
namespace Rows
def none {H : Type} : Left H := { results := [], args := [] }

/- WHAT THE LISTED PACKAGE-LEVEL VARIABLES READ AS WHEN THE CALL BEGINS. Each datum BY PROGRAM (the guide's laid-datum.mjs) off the statement by which the dump's own 'gosem.cut.vars' lays the variable. In a bare row this is a premise. The card (YtpbplpgfloaaiaaGreatDoorCards.lean) ties it to the program's text. -/
def laid_probecard_logic_fanins {H : Type} : DataW H := .agg [.agg [.lit (.int .i64 0), .lit (.int .i64 0)], .agg [.lit (.int .i64 0), .lit (.int .i64 0)], .agg [.lit (.int .i64 0), .lit (.int .i64 0)], .agg [.lit (.int .i64 1), .lit (.int .i64 1)], .agg [.lit (.int .i64 1), .lit (.int .i64 1)], .agg [.lit (.int .i64 2), .lit (.int .i64 16)], .agg [.lit (.int .i64 2), .lit (.int .i64 16)], .agg [.lit (.int .i64 2), .lit (.int .i64 16)], .agg [.lit (.int .i64 2), .lit (.int .i64 16)], .agg [.lit (.int .i64 2), .lit (.int .i64 16)], .agg [.lit (.int .i64 2), .lit (.int .i64 16)], .agg [.lit (.int .i64 3), .lit (.int .i64 3)], .agg [.lit (.int .i64 2), .lit (.int .i64 2)], .agg [.lit (.int .i64 1), .lit (.int .i64 16)], .agg [.lit (.int .i64 1), .lit (.int .i64 1)], .agg [.lit (.int .i64 0), .lit (.int .i64 0)]]
def laid_probecard_scoaps_unit {H : Type} : DataW H := .agg [.lit (.int .i64 1), .lit (.int .i64 1)]
def laid_probecard_scoaps_never {H : Type} : DataW H := .agg [.lit (.int .i64 1073741824), .lit (.int .i64 1073741824)]

/-- 'probecardtop.TopClass': WHATEVER THE INPUT: true; the input reads as it did. -/
def topClassSpec : ChangeSpec := { name := "topClass", fn := fun _ => fun
  | [d1, d2, d3] => { results := [.lit (.bool true)], args := [d1, d2, d3] }
  | _ => none }
def topClassRow : OpenClaim := { program := "ytpbplpgfloaaiaagreatdoor", sum := "f9d2e24ae2d4887b456c8fe6935511d4368da222dc737ad9c167cabdac1ef8d0", func := "probecard/probecardtop.TopClass", spec := "topClass", inPlace := ["internal/bytealg.IndexByteString", "internal/bytealg.IndexString"], unfollowed := true, recurses := true, named := ["probecard/logic.fanins", "internal/bytealg.MaxLen"], plainKeys := false, apart := false, laid := [("probecard/logic.fanins", laid_probecard_logic_fanins)] }
def TopClassSaid : Prop := topClassRow.holds Tryz.pinned (OpenSpec.ofChange topClassSpec)

/-- ITS FALSE NEIGHBOUR: 'it returns false'. Refute it at one input. -/
def topClassWrong : ChangeSpec := { name := "topClass", fn := fun _ => fun
  | [d1, d2, d3] => { results := [.lit (.bool false)], args := [d1, d2, d3] }
  | _ => none }
def TopClassWrongFalsely : Prop := topClassRow.holds Tryz.pinned (OpenSpec.ofChange topClassWrong)

/-- 'probecardtop.TopColumns': WHATEVER THE INPUT: true; the input reads as it did. -/
def topColumnsSpec : ChangeSpec := { name := "topColumns", fn := fun _ => fun
  | [d1, d2, d3] => { results := [.lit (.bool true)], args := [d1, d2, d3] }
  | _ => none }
def topColumnsRow : OpenClaim := { program := "ytpbplpgfloaaiaagreatdoor", sum := "f9d2e24ae2d4887b456c8fe6935511d4368da222dc737ad9c167cabdac1ef8d0", func := "probecard/probecardtop.TopColumns", spec := "topColumns", inPlace := ["internal/bytealg.IndexByteString", "internal/bytealg.IndexString"], unfollowed := true, recurses := true, named := ["probecard/logic.fanins", "probecard/scoaps.never", "probecard/scoaps.unit", "internal/bytealg.MaxLen"], plainKeys := false, apart := false, laid := [("probecard/logic.fanins", laid_probecard_logic_fanins), ("probecard/scoaps.unit", laid_probecard_scoaps_unit), ("probecard/scoaps.never", laid_probecard_scoaps_never)] }
def TopColumnsSaid : Prop := topColumnsRow.holds Tryz.pinned (OpenSpec.ofChange topColumnsSpec)

/-- ITS FALSE NEIGHBOUR: 'it returns false'. Refute it at one input. -/
def topColumnsWrong : ChangeSpec := { name := "topColumns", fn := fun _ => fun
  | [d1, d2, d3] => { results := [.lit (.bool false)], args := [d1, d2, d3] }
  | _ => none }
def TopColumnsWrongFalsely : Prop := topColumnsRow.holds Tryz.pinned (OpenSpec.ofChange topColumnsWrong)

/- THE SECOND FORM. 'bulk': how many values and letters a reading holds, each counted each time it is reached (what is shared counts as often as it is met; a slice's spare places count too). A statement '..UptoSaid' is the law's where the arguments, and the package variables that the reading takes, are together of bulk at most 1048576: NARROWER than '..Said'. Prove '..Said' where nothing that the law and all that it calls make is longer than what came in: it says more and counts as full. Else prove '..UptoSaid'. A law counts once. -/
mutual
def uptoBulk {H : Type} : DataW H → Nat
  | .lit (.string bytes) => bytes.length + 1
  | .lit _ => 1
  | .nil => 1
  | .ptr d => uptoBulk d + 1
  | .slice elems spare => uptoBulkAll elems + uptoBulkAll spare + 1
  | .agg parts => uptoBulkAll parts + 1
  | .iface _ d => uptoBulk d + 1
  | .map entries => uptoBulkEntries entries + 1
  | .held _ => 1
def uptoBulkAll {H : Type} : List (DataW H) → Nat
  | [] => 0
  | d :: r => uptoBulk d + uptoBulkAll r
def uptoBulkEntries {H : Type} : List (Lit × DataW H) → Nat
  | [] => 0
  | x :: r => uptoBulkEntry x + uptoBulkEntries r
def uptoBulkEntry {H : Type} : Lit × DataW H → Nat
  | (.string bytes, d) => bytes.length + uptoBulk d + 1
  | (_, d) => uptoBulk d + 1
 end
def uptoSmall : (H : Type) → List (DataW H) → Bool := fun _ ds => decide (uptoBulkAll ds ≤ 1048576)
def OpenSpec.upto (s : _root_.Go.ChangeSpec) : _root_.Go.OpenSpec := { _root_.Go.OpenSpec.ofChange s with cond := some uptoSmall }

/-- 'probecardtop.TopClass', WHERE WHAT IT READS IS OF BULK AT MOST 1048576: true; the input reads as it did. -/
def topClassUptoRow : OpenClaim := { program := "ytpbplpgfloaaiaagreatdoor", sum := "f9d2e24ae2d4887b456c8fe6935511d4368da222dc737ad9c167cabdac1ef8d0", func := "probecard/probecardtop.TopClass", spec := "topClass", inPlace := ["internal/bytealg.IndexByteString", "internal/bytealg.IndexString"], unfollowed := true, recurses := true, named := ["probecard/logic.fanins", "internal/bytealg.MaxLen"], plainKeys := false, apart := false, laid := [("probecard/logic.fanins", laid_probecard_logic_fanins)], narrowed := true }
def TopClassUptoSaid : Prop := topClassUptoRow.holds Tryz.pinned (OpenSpec.upto topClassSpec)

/-- 'probecardtop.TopColumns', WHERE WHAT IT READS IS OF BULK AT MOST 1048576: true; the input reads as it did. -/
def topColumnsUptoRow : OpenClaim := { program := "ytpbplpgfloaaiaagreatdoor", sum := "f9d2e24ae2d4887b456c8fe6935511d4368da222dc737ad9c167cabdac1ef8d0", func := "probecard/probecardtop.TopColumns", spec := "topColumns", inPlace := ["internal/bytealg.IndexByteString", "internal/bytealg.IndexString"], unfollowed := true, recurses := true, named := ["probecard/logic.fanins", "probecard/scoaps.never", "probecard/scoaps.unit", "internal/bytealg.MaxLen"], plainKeys := false, apart := false, laid := [("probecard/logic.fanins", laid_probecard_logic_fanins), ("probecard/scoaps.unit", laid_probecard_scoaps_unit), ("probecard/scoaps.never", laid_probecard_scoaps_never)], narrowed := true }
def TopColumnsUptoSaid : Prop := topColumnsUptoRow.holds Tryz.pinned (OpenSpec.upto topColumnsSpec)

end Rows
end Go.Proofs.YtpbplpgfloaaiaaGreatDoor
