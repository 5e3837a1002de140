/-
  No cell of these rows narrows 'for every input' (looked for: loops, veiled, ifaces, maps, wideKeys, modest, calm, conditions, laid).
  DERIVED. THE GIVEN ROWS OF THIS SEAT. 6 by the template 'for every input the law returns true; each argument reads behind the call as it read before'; 0 by the template 'total and deterministic' (their statements: YtfcbahfdgopgfaaTotals.lean).
  GIVEN WITH THE SEED: the statements are not yours to turn. If you find one false, say at which input.
  Laid BY PROGRAM, IN A SANDBOX (cutbox-rows.mjs): the forced cells as the released guide's own fill.sh prints them over the translation daa6803f99ee812d… (all of the seat's roots in one cut). By AI agents, Wed Nov 11 2026. No macro, syntax, notation, axiom, sorry.
-/
import Derived.Test.YtfcbahfdgopgfaaChecked
import GoSem.Claim
import GoSem.ClaimJoined
import GoSem.ClaimMapViews
import Derived.JoinedTies
import Derived.KernelRfl
namespace Go.Proofs.Ytfcbahfdgopgfaa
/- THE CELL 'sum', in the pinned program and in every row, IS THE sha256 OF THE DUMP (.gsa) THAT YtfcbahfdgopgfaaProg.lean LOADS. Nothing in Lean hashes anything: it is a label: what it is worth is what the hold of that sum in a sandbox is worth. -/
noncomputable def Try.pinned : Pinned := { name := "ytfcbahfdgopgfaa", sum := "daa6803f99ee812d35bbc2a966924c4ba0688c645909857a2573bb66f119874c", checked := Try.checked }
namespace Rows
def none {H : Type} : Left H := { results := [], args := [] }

/-- 'probecardlaw33.CompactorsOutputs': WHATEVER THE INPUT: true; the input reads as it did. -/
def compactorsOutputsSpec : ChangeSpec := { name := "compactorsOutputs", fn := fun _ => fun
  | [d1, d2] => { results := [.lit (.bool true)], args := [d1, d2] }
  | _ => none }
def compactorsOutputsRow : OpenClaim := { program := "ytfcbahfdgopgfaa", sum := "daa6803f99ee812d35bbc2a966924c4ba0688c645909857a2573bb66f119874c", func := "probecard/probecardlaw33.CompactorsOutputs", spec := "compactorsOutputs", unfollowed := true, recurses := true, apart := false }
def CompactorsOutputsSaid : Prop := compactorsOutputsRow.holds Try.pinned (OpenSpec.ofChange compactorsOutputsSpec)

/-- ITS FALSE NEIGHBOUR: 'it returns false'. Refute it at one input. -/
def compactorsOutputsWrong : ChangeSpec := { name := "compactorsOutputs", fn := fun _ => fun
  | [d1, d2] => { results := [.lit (.bool false)], args := [d1, d2] }
  | _ => none }
def CompactorsOutputsWrongFalsely : Prop := compactorsOutputsRow.holds Try.pinned (OpenSpec.ofChange compactorsOutputsWrong)

/-- 'probecardlaw33.CompactorsKeeps': WHATEVER THE INPUT: true; the input reads as it did. -/
def compactorsKeepsSpec : ChangeSpec := { name := "compactorsKeeps", fn := fun _ => fun
  | [d1, d2, d3] => { results := [.lit (.bool true)], args := [d1, d2, d3] }
  | _ => none }
def compactorsKeepsRow : OpenClaim := { program := "ytfcbahfdgopgfaa", sum := "daa6803f99ee812d35bbc2a966924c4ba0688c645909857a2573bb66f119874c", func := "probecard/probecardlaw33.CompactorsKeeps", spec := "compactorsKeeps", unfollowed := true, recurses := true, apart := false }
def CompactorsKeepsSaid : Prop := compactorsKeepsRow.holds Try.pinned (OpenSpec.ofChange compactorsKeepsSpec)

/-- ITS FALSE NEIGHBOUR: 'it returns false'. Refute it at one input. -/
def compactorsKeepsWrong : ChangeSpec := { name := "compactorsKeeps", fn := fun _ => fun
  | [d1, d2, d3] => { results := [.lit (.bool false)], args := [d1, d2, d3] }
  | _ => none }
def CompactorsKeepsWrongFalsely : Prop := compactorsKeepsRow.holds Try.pinned (OpenSpec.ofChange compactorsKeepsWrong)

/-- 'probecardlaw33.CompactorsSees': WHATEVER THE INPUT: true; the input reads as it did. -/
def compactorsSeesSpec : ChangeSpec := { name := "compactorsSees", fn := fun _ => fun
  | [d1, d2] => { results := [.lit (.bool true)], args := [d1, d2] }
  | _ => none }
def compactorsSeesRow : OpenClaim := { program := "ytfcbahfdgopgfaa", sum := "daa6803f99ee812d35bbc2a966924c4ba0688c645909857a2573bb66f119874c", func := "probecard/probecardlaw33.CompactorsSees", spec := "compactorsSees", unfollowed := true, recurses := true, apart := false }
def CompactorsSeesSaid : Prop := compactorsSeesRow.holds Try.pinned (OpenSpec.ofChange compactorsSeesSpec)

/-- ITS FALSE NEIGHBOUR: 'it returns false'. Refute it at one input. -/
def compactorsSeesWrong : ChangeSpec := { name := "compactorsSees", fn := fun _ => fun
  | [d1, d2] => { results := [.lit (.bool false)], args := [d1, d2] }
  | _ => none }
def CompactorsSeesWrongFalsely : Prop := compactorsSeesRow.holds Try.pinned (OpenSpec.ofChange compactorsSeesWrong)

/-- 'probecardlaw33.CompactorsLocates': WHATEVER THE INPUT: true; the input reads as it did. -/
def compactorsLocatesSpec : ChangeSpec := { name := "compactorsLocates", fn := fun _ => fun
  | [d1, d2, d3] => { results := [.lit (.bool true)], args := [d1, d2, d3] }
  | _ => none }
def compactorsLocatesRow : OpenClaim := { program := "ytfcbahfdgopgfaa", sum := "daa6803f99ee812d35bbc2a966924c4ba0688c645909857a2573bb66f119874c", func := "probecard/probecardlaw33.CompactorsLocates", spec := "compactorsLocates", unfollowed := true, recurses := true, apart := false }
def CompactorsLocatesSaid : Prop := compactorsLocatesRow.holds Try.pinned (OpenSpec.ofChange compactorsLocatesSpec)

/-- ITS FALSE NEIGHBOUR: 'it returns false'. Refute it at one input. -/
def compactorsLocatesWrong : ChangeSpec := { name := "compactorsLocates", fn := fun _ => fun
  | [d1, d2, d3] => { results := [.lit (.bool false)], args := [d1, d2, d3] }
  | _ => none }
def CompactorsLocatesWrongFalsely : Prop := compactorsLocatesRow.holds Try.pinned (OpenSpec.ofChange compactorsLocatesWrong)

/-- 'probecardlaw33.CompactorsSigns': WHATEVER THE INPUT: true; the input reads as it did. -/
def compactorsSignsSpec : ChangeSpec := { name := "compactorsSigns", fn := fun _ => fun
  | [d1, d2, d3] => { results := [.lit (.bool true)], args := [d1, d2, d3] }
  | _ => none }
def compactorsSignsRow : OpenClaim := { program := "ytfcbahfdgopgfaa", sum := "daa6803f99ee812d35bbc2a966924c4ba0688c645909857a2573bb66f119874c", func := "probecard/probecardlaw33.CompactorsSigns", spec := "compactorsSigns", unfollowed := true, recurses := true, apart := false }
def CompactorsSignsSaid : Prop := compactorsSignsRow.holds Try.pinned (OpenSpec.ofChange compactorsSignsSpec)

/-- ITS FALSE NEIGHBOUR: 'it returns false'. Refute it at one input. -/
def compactorsSignsWrong : ChangeSpec := { name := "compactorsSigns", fn := fun _ => fun
  | [d1, d2, d3] => { results := [.lit (.bool false)], args := [d1, d2, d3] }
  | _ => none }
def CompactorsSignsWrongFalsely : Prop := compactorsSignsRow.holds Try.pinned (OpenSpec.ofChange compactorsSignsWrong)

/-- 'probecardlaw33.CompactorsKnown': WHATEVER THE INPUT: true; the input reads as it did. -/
def compactorsKnownSpec : ChangeSpec := { name := "compactorsKnown", fn := fun _ => fun
  | [] => { results := [.lit (.bool true)], args := [] }
  | _ => none }
def compactorsKnownRow : OpenClaim := { program := "ytfcbahfdgopgfaa", sum := "daa6803f99ee812d35bbc2a966924c4ba0688c645909857a2573bb66f119874c", func := "probecard/probecardlaw33.CompactorsKnown", spec := "compactorsKnown", unfollowed := true, recurses := true, apart := false }
def CompactorsKnownSaid : Prop := compactorsKnownRow.holds Try.pinned (OpenSpec.ofChange compactorsKnownSpec)

/-- ITS FALSE NEIGHBOUR: 'it returns false'. Refute it at one input. -/
def compactorsKnownWrong : ChangeSpec := { name := "compactorsKnown", fn := fun _ => fun
  | [] => { results := [.lit (.bool false)], args := [] }
  | _ => none }
def CompactorsKnownWrongFalsely : Prop := compactorsKnownRow.holds Try.pinned (OpenSpec.ofChange compactorsKnownWrong)

/- THE SECOND FORM. 'bulk': how many values and letters a reading holds, each counted each time it is reached (what is shared counts as often as it is met; a slice's spare places count too). A statement '..UptoSaid' is the law's where the arguments, and the package variables that the reading takes, are together of bulk at most 1048576: NARROWER than '..Said'. Prove '..Said' where nothing that the law and all that it calls make is longer than what came in: it says more and counts as full. Else prove '..UptoSaid'. A law counts once. -/
mutual
def uptoBulk {H : Type} : DataW H → Nat
  | .lit (.string bytes) => bytes.length + 1
  | .lit _ => 1
  | .nil => 1
  | .ptr d => uptoBulk d + 1
  | .slice elems spare => uptoBulkAll elems + uptoBulkAll spare + 1
  | .agg parts => uptoBulkAll parts + 1
  | .iface _ d => uptoBulk d + 1
  | .map entries => uptoBulkEntries entries + 1
  | .held _ => 1
def uptoBulkAll {H : Type} : List (DataW H) → Nat
  | [] => 0
  | d :: r => uptoBulk d + uptoBulkAll r
def uptoBulkEntries {H : Type} : List (Lit × DataW H) → Nat
  | [] => 0
  | x :: r => uptoBulkEntry x + uptoBulkEntries r
def uptoBulkEntry {H : Type} : Lit × DataW H → Nat
  | (.string bytes, d) => bytes.length + uptoBulk d + 1
  | (_, d) => uptoBulk d + 1
 end
def uptoSmall : (H : Type) → List (DataW H) → Bool := fun _ ds => decide (uptoBulkAll ds ≤ 1048576)
def OpenSpec.upto (s : _root_.Go.ChangeSpec) : _root_.Go.OpenSpec := { _root_.Go.OpenSpec.ofChange s with cond := some uptoSmall }

/-- 'probecardlaw33.CompactorsOutputs', WHERE WHAT IT READS IS OF BULK AT MOST 1048576: true; the input reads as it did. -/
def compactorsOutputsUptoRow : OpenClaim := { program := "ytfcbahfdgopgfaa", sum := "daa6803f99ee812d35bbc2a966924c4ba0688c645909857a2573bb66f119874c", func := "probecard/probecardlaw33.CompactorsOutputs", spec := "compactorsOutputs", unfollowed := true, recurses := true, apart := false, narrowed := true }
def CompactorsOutputsUptoSaid : Prop := compactorsOutputsUptoRow.holds Try.pinned (OpenSpec.upto compactorsOutputsSpec)

/-- 'probecardlaw33.CompactorsKeeps', WHERE WHAT IT READS IS OF BULK AT MOST 1048576: true; the input reads as it did. -/
def compactorsKeepsUptoRow : OpenClaim := { program := "ytfcbahfdgopgfaa", sum := "daa6803f99ee812d35bbc2a966924c4ba0688c645909857a2573bb66f119874c", func := "probecard/probecardlaw33.CompactorsKeeps", spec := "compactorsKeeps", unfollowed := true, recurses := true, apart := false, narrowed := true }
def CompactorsKeepsUptoSaid : Prop := compactorsKeepsUptoRow.holds Try.pinned (OpenSpec.upto compactorsKeepsSpec)

/-- 'probecardlaw33.CompactorsSees', WHERE WHAT IT READS IS OF BULK AT MOST 1048576: true; the input reads as it did. -/
def compactorsSeesUptoRow : OpenClaim := { program := "ytfcbahfdgopgfaa", sum := "daa6803f99ee812d35bbc2a966924c4ba0688c645909857a2573bb66f119874c", func := "probecard/probecardlaw33.CompactorsSees", spec := "compactorsSees", unfollowed := true, recurses := true, apart := false, narrowed := true }
def CompactorsSeesUptoSaid : Prop := compactorsSeesUptoRow.holds Try.pinned (OpenSpec.upto compactorsSeesSpec)

/-- 'probecardlaw33.CompactorsLocates', WHERE WHAT IT READS IS OF BULK AT MOST 1048576: true; the input reads as it did. -/
def compactorsLocatesUptoRow : OpenClaim := { program := "ytfcbahfdgopgfaa", sum := "daa6803f99ee812d35bbc2a966924c4ba0688c645909857a2573bb66f119874c", func := "probecard/probecardlaw33.CompactorsLocates", spec := "compactorsLocates", unfollowed := true, recurses := true, apart := false, narrowed := true }
def CompactorsLocatesUptoSaid : Prop := compactorsLocatesUptoRow.holds Try.pinned (OpenSpec.upto compactorsLocatesSpec)

/-- 'probecardlaw33.CompactorsSigns', WHERE WHAT IT READS IS OF BULK AT MOST 1048576: true; the input reads as it did. -/
def compactorsSignsUptoRow : OpenClaim := { program := "ytfcbahfdgopgfaa", sum := "daa6803f99ee812d35bbc2a966924c4ba0688c645909857a2573bb66f119874c", func := "probecard/probecardlaw33.CompactorsSigns", spec := "compactorsSigns", unfollowed := true, recurses := true, apart := false, narrowed := true }
def CompactorsSignsUptoSaid : Prop := compactorsSignsUptoRow.holds Try.pinned (OpenSpec.upto compactorsSignsSpec)

/-- 'probecardlaw33.CompactorsKnown', WHERE WHAT IT READS IS OF BULK AT MOST 1048576: true; the input reads as it did. -/
def compactorsKnownUptoRow : OpenClaim := { program := "ytfcbahfdgopgfaa", sum := "daa6803f99ee812d35bbc2a966924c4ba0688c645909857a2573bb66f119874c", func := "probecard/probecardlaw33.CompactorsKnown", spec := "compactorsKnown", unfollowed := true, recurses := true, apart := false, narrowed := true }
def CompactorsKnownUptoSaid : Prop := compactorsKnownUptoRow.holds Try.pinned (OpenSpec.upto compactorsKnownSpec)

end Rows
end Go.Proofs.Ytfcbahfdgopgfaa
