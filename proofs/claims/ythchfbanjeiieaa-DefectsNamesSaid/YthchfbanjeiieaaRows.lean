/-
  No cell of these rows narrows 'for every input' (looked for: loops, veiled, ifaces, maps, wideKeys, modest, calm, conditions, laid).
  DERIVED. THE GIVEN ROWS OF THIS SEAT. 6 by the template 'for every input the law returns true; each argument reads behind the call as it read before'; 0 by the template 'total and deterministic' (their statements: YthchfbanjeiieaaTotals.lean).
  GIVEN WITH THE SEED: the statements are not yours to turn. If you find one false, say at which input.
  Laid BY PROGRAM, IN A SANDBOX (cutbox-rows.mjs): the forced cells as the released guide's own fill.sh prints them over the translation af1f17b8486da4e0… (all of the seat's roots in one cut). By AI agents, Wed Nov 11 2026. No macro, syntax, notation, axiom, sorry.
-/
import Derived.Test.YthchfbanjeiieaaChecked
import GoSem.Claim
import GoSem.ClaimJoined
import GoSem.ClaimMapViews
import Derived.JoinedTies
import Derived.KernelRfl
namespace Go.Proofs.Ythchfbanjeiieaa
/- THE CELL 'sum', in the pinned program and in every row, IS THE sha256 OF THE DUMP (.gsa) THAT YthchfbanjeiieaaProg.lean LOADS. Nothing in Lean hashes anything: it is a label: what it is worth is what the hold of that sum in a sandbox is worth. -/
noncomputable def Try.pinned : Pinned := { name := "ythchfbanjeiieaa", sum := "af1f17b8486da4e0e1038b749ae0ffdfc6f6891734cacb1faa464db4edd1a7c7", checked := Try.checked }
namespace Rows
def none {H : Type} : Left H := { results := [], args := [] }

/-- 'probecardlaw38.DefectsPlay': WHATEVER THE INPUT: true; the input reads as it did. -/
def defectsPlaySpec : ChangeSpec := { name := "defectsPlay", fn := fun _ => fun
  | [d1, d2] => { results := [.lit (.bool true)], args := [d1, d2] }
  | _ => none }
def defectsPlayRow : OpenClaim := { program := "ythchfbanjeiieaa", sum := "af1f17b8486da4e0e1038b749ae0ffdfc6f6891734cacb1faa464db4edd1a7c7", func := "probecard/probecardlaw38.DefectsPlay", spec := "defectsPlay", unfollowed := true, recurses := true, apart := false }
def DefectsPlaySaid : Prop := defectsPlayRow.holds Try.pinned (OpenSpec.ofChange defectsPlaySpec)

/-- ITS FALSE NEIGHBOUR: 'it returns false'. Refute it at one input. -/
def defectsPlayWrong : ChangeSpec := { name := "defectsPlay", fn := fun _ => fun
  | [d1, d2] => { results := [.lit (.bool false)], args := [d1, d2] }
  | _ => none }
def DefectsPlayWrongFalsely : Prop := defectsPlayRow.holds Try.pinned (OpenSpec.ofChange defectsPlayWrong)

/-- 'probecardlaw38.DefectsCheck': WHATEVER THE INPUT: true; the input reads as it did. -/
def defectsCheckSpec : ChangeSpec := { name := "defectsCheck", fn := fun _ => fun
  | [d1, d2] => { results := [.lit (.bool true)], args := [d1, d2] }
  | _ => none }
def defectsCheckRow : OpenClaim := { program := "ythchfbanjeiieaa", sum := "af1f17b8486da4e0e1038b749ae0ffdfc6f6891734cacb1faa464db4edd1a7c7", func := "probecard/probecardlaw38.DefectsCheck", spec := "defectsCheck", unfollowed := true, recurses := true, apart := false }
def DefectsCheckSaid : Prop := defectsCheckRow.holds Try.pinned (OpenSpec.ofChange defectsCheckSpec)

/-- ITS FALSE NEIGHBOUR: 'it returns false'. Refute it at one input. -/
def defectsCheckWrong : ChangeSpec := { name := "defectsCheck", fn := fun _ => fun
  | [d1, d2] => { results := [.lit (.bool false)], args := [d1, d2] }
  | _ => none }
def DefectsCheckWrongFalsely : Prop := defectsCheckRow.holds Try.pinned (OpenSpec.ofChange defectsCheckWrong)

/-- 'probecardlaw38.DefectsAccess': WHATEVER THE INPUT: true; the input reads as it did. -/
def defectsAccessSpec : ChangeSpec := { name := "defectsAccess", fn := fun _ => fun
  | [d1, d2, d3] => { results := [.lit (.bool true)], args := [d1, d2, d3] }
  | _ => none }
def defectsAccessRow : OpenClaim := { program := "ythchfbanjeiieaa", sum := "af1f17b8486da4e0e1038b749ae0ffdfc6f6891734cacb1faa464db4edd1a7c7", func := "probecard/probecardlaw38.DefectsAccess", spec := "defectsAccess", unfollowed := true, recurses := true, apart := false }
def DefectsAccessSaid : Prop := defectsAccessRow.holds Try.pinned (OpenSpec.ofChange defectsAccessSpec)

/-- ITS FALSE NEIGHBOUR: 'it returns false'. Refute it at one input. -/
def defectsAccessWrong : ChangeSpec := { name := "defectsAccess", fn := fun _ => fun
  | [d1, d2, d3] => { results := [.lit (.bool false)], args := [d1, d2, d3] }
  | _ => none }
def DefectsAccessWrongFalsely : Prop := defectsAccessRow.holds Try.pinned (OpenSpec.ofChange defectsAccessWrong)

/-- 'probecardlaw38.DefectsApart': WHATEVER THE INPUT: true; the input reads as it did. -/
def defectsApartSpec : ChangeSpec := { name := "defectsApart", fn := fun _ => fun
  | [d1, d2] => { results := [.lit (.bool true)], args := [d1, d2] }
  | _ => none }
def defectsApartRow : OpenClaim := { program := "ythchfbanjeiieaa", sum := "af1f17b8486da4e0e1038b749ae0ffdfc6f6891734cacb1faa464db4edd1a7c7", func := "probecard/probecardlaw38.DefectsApart", spec := "defectsApart", unfollowed := true, recurses := true, apart := false }
def DefectsApartSaid : Prop := defectsApartRow.holds Try.pinned (OpenSpec.ofChange defectsApartSpec)

/-- ITS FALSE NEIGHBOUR: 'it returns false'. Refute it at one input. -/
def defectsApartWrong : ChangeSpec := { name := "defectsApart", fn := fun _ => fun
  | [d1, d2] => { results := [.lit (.bool false)], args := [d1, d2] }
  | _ => none }
def DefectsApartWrongFalsely : Prop := defectsApartRow.holds Try.pinned (OpenSpec.ofChange defectsApartWrong)

/-- 'probecardlaw38.DefectsInverse': WHATEVER THE INPUT: true; the input reads as it did. -/
def defectsInverseSpec : ChangeSpec := { name := "defectsInverse", fn := fun _ => fun
  | [d1, d2] => { results := [.lit (.bool true)], args := [d1, d2] }
  | _ => none }
def defectsInverseRow : OpenClaim := { program := "ythchfbanjeiieaa", sum := "af1f17b8486da4e0e1038b749ae0ffdfc6f6891734cacb1faa464db4edd1a7c7", func := "probecard/probecardlaw38.DefectsInverse", spec := "defectsInverse", unfollowed := true, recurses := true, apart := false }
def DefectsInverseSaid : Prop := defectsInverseRow.holds Try.pinned (OpenSpec.ofChange defectsInverseSpec)

/-- ITS FALSE NEIGHBOUR: 'it returns false'. Refute it at one input. -/
def defectsInverseWrong : ChangeSpec := { name := "defectsInverse", fn := fun _ => fun
  | [d1, d2] => { results := [.lit (.bool false)], args := [d1, d2] }
  | _ => none }
def DefectsInverseWrongFalsely : Prop := defectsInverseRow.holds Try.pinned (OpenSpec.ofChange defectsInverseWrong)

/-- 'probecardlaw38.DefectsNames': WHATEVER THE INPUT: true; the input reads as it did. -/
def defectsNamesSpec : ChangeSpec := { name := "defectsNames", fn := fun _ => fun
  | [d] => { results := [.lit (.bool true)], args := [d] }
  | _ => none }
def defectsNamesRow : OpenClaim := { program := "ythchfbanjeiieaa", sum := "af1f17b8486da4e0e1038b749ae0ffdfc6f6891734cacb1faa464db4edd1a7c7", func := "probecard/probecardlaw38.DefectsNames", spec := "defectsNames", unfollowed := true, recurses := true, apart := false }
def DefectsNamesSaid : Prop := defectsNamesRow.holds Try.pinned (OpenSpec.ofChange defectsNamesSpec)

/-- ITS FALSE NEIGHBOUR: 'it returns false'. Refute it at one input. -/
def defectsNamesWrong : ChangeSpec := { name := "defectsNames", fn := fun _ => fun
  | [d] => { results := [.lit (.bool false)], args := [d] }
  | _ => none }
def DefectsNamesWrongFalsely : Prop := defectsNamesRow.holds Try.pinned (OpenSpec.ofChange defectsNamesWrong)

/- THE SECOND FORM. 'bulk': how many values and letters a reading holds, each counted each time it is reached (what is shared counts as often as it is met; a slice's spare places count too). A statement '..UptoSaid' is the law's where the arguments, and the package variables that the reading takes, are together of bulk at most 1048576: NARROWER than '..Said'. Prove '..Said' where nothing that the law and all that it calls make is longer than what came in: it says more and counts as full. Else prove '..UptoSaid'. A law counts once. -/
mutual
def uptoBulk {H : Type} : DataW H → Nat
  | .lit (.string bytes) => bytes.length + 1
  | .lit _ => 1
  | .nil => 1
  | .ptr d => uptoBulk d + 1
  | .slice elems spare => uptoBulkAll elems + uptoBulkAll spare + 1
  | .agg parts => uptoBulkAll parts + 1
  | .iface _ d => uptoBulk d + 1
  | .map entries => uptoBulkEntries entries + 1
  | .held _ => 1
def uptoBulkAll {H : Type} : List (DataW H) → Nat
  | [] => 0
  | d :: r => uptoBulk d + uptoBulkAll r
def uptoBulkEntries {H : Type} : List (Lit × DataW H) → Nat
  | [] => 0
  | x :: r => uptoBulkEntry x + uptoBulkEntries r
def uptoBulkEntry {H : Type} : Lit × DataW H → Nat
  | (.string bytes, d) => bytes.length + uptoBulk d + 1
  | (_, d) => uptoBulk d + 1
 end
def uptoSmall : (H : Type) → List (DataW H) → Bool := fun _ ds => decide (uptoBulkAll ds ≤ 1048576)
def OpenSpec.upto (s : _root_.Go.ChangeSpec) : _root_.Go.OpenSpec := { _root_.Go.OpenSpec.ofChange s with cond := some uptoSmall }

/-- 'probecardlaw38.DefectsPlay', WHERE WHAT IT READS IS OF BULK AT MOST 1048576: true; the input reads as it did. -/
def defectsPlayUptoRow : OpenClaim := { program := "ythchfbanjeiieaa", sum := "af1f17b8486da4e0e1038b749ae0ffdfc6f6891734cacb1faa464db4edd1a7c7", func := "probecard/probecardlaw38.DefectsPlay", spec := "defectsPlay", unfollowed := true, recurses := true, apart := false, narrowed := true }
def DefectsPlayUptoSaid : Prop := defectsPlayUptoRow.holds Try.pinned (OpenSpec.upto defectsPlaySpec)

/-- 'probecardlaw38.DefectsCheck', WHERE WHAT IT READS IS OF BULK AT MOST 1048576: true; the input reads as it did. -/
def defectsCheckUptoRow : OpenClaim := { program := "ythchfbanjeiieaa", sum := "af1f17b8486da4e0e1038b749ae0ffdfc6f6891734cacb1faa464db4edd1a7c7", func := "probecard/probecardlaw38.DefectsCheck", spec := "defectsCheck", unfollowed := true, recurses := true, apart := false, narrowed := true }
def DefectsCheckUptoSaid : Prop := defectsCheckUptoRow.holds Try.pinned (OpenSpec.upto defectsCheckSpec)

/-- 'probecardlaw38.DefectsAccess', WHERE WHAT IT READS IS OF BULK AT MOST 1048576: true; the input reads as it did. -/
def defectsAccessUptoRow : OpenClaim := { program := "ythchfbanjeiieaa", sum := "af1f17b8486da4e0e1038b749ae0ffdfc6f6891734cacb1faa464db4edd1a7c7", func := "probecard/probecardlaw38.DefectsAccess", spec := "defectsAccess", unfollowed := true, recurses := true, apart := false, narrowed := true }
def DefectsAccessUptoSaid : Prop := defectsAccessUptoRow.holds Try.pinned (OpenSpec.upto defectsAccessSpec)

/-- 'probecardlaw38.DefectsApart', WHERE WHAT IT READS IS OF BULK AT MOST 1048576: true; the input reads as it did. -/
def defectsApartUptoRow : OpenClaim := { program := "ythchfbanjeiieaa", sum := "af1f17b8486da4e0e1038b749ae0ffdfc6f6891734cacb1faa464db4edd1a7c7", func := "probecard/probecardlaw38.DefectsApart", spec := "defectsApart", unfollowed := true, recurses := true, apart := false, narrowed := true }
def DefectsApartUptoSaid : Prop := defectsApartUptoRow.holds Try.pinned (OpenSpec.upto defectsApartSpec)

/-- 'probecardlaw38.DefectsInverse', WHERE WHAT IT READS IS OF BULK AT MOST 1048576: true; the input reads as it did. -/
def defectsInverseUptoRow : OpenClaim := { program := "ythchfbanjeiieaa", sum := "af1f17b8486da4e0e1038b749ae0ffdfc6f6891734cacb1faa464db4edd1a7c7", func := "probecard/probecardlaw38.DefectsInverse", spec := "defectsInverse", unfollowed := true, recurses := true, apart := false, narrowed := true }
def DefectsInverseUptoSaid : Prop := defectsInverseUptoRow.holds Try.pinned (OpenSpec.upto defectsInverseSpec)

/-- 'probecardlaw38.DefectsNames', WHERE WHAT IT READS IS OF BULK AT MOST 1048576: true; the input reads as it did. -/
def defectsNamesUptoRow : OpenClaim := { program := "ythchfbanjeiieaa", sum := "af1f17b8486da4e0e1038b749ae0ffdfc6f6891734cacb1faa464db4edd1a7c7", func := "probecard/probecardlaw38.DefectsNames", spec := "defectsNames", unfollowed := true, recurses := true, apart := false, narrowed := true }
def DefectsNamesUptoSaid : Prop := defectsNamesUptoRow.holds Try.pinned (OpenSpec.upto defectsNamesSpec)

end Rows
end Go.Proofs.Ythchfbanjeiieaa
