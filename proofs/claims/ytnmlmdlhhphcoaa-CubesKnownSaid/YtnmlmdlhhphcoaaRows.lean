/-
  No cell of these rows narrows 'for every input' (looked for: loops, veiled, ifaces, maps, wideKeys, modest, calm, conditions, laid).
  DERIVED. THE GIVEN ROWS OF THIS SEAT. 6 by the template 'for every input the law returns true; each argument reads behind the call as it read before'; 0 by the template 'total and deterministic' (their statements: YtnmlmdlhhphcoaaTotals.lean).
  GIVEN WITH THE SEED: the statements are not yours to turn. If you find one false, say at which input.
  Laid BY PROGRAM, IN A SANDBOX (cutbox-rows.mjs): the forced cells as the released guide's own fill.sh prints them over the translation 51bc75d445c1a39b… (all of the seat's roots in one cut). By AI agents, Wed Nov 11 2026. No macro, syntax, notation, axiom, sorry.
-/
import Derived.Test.YtnmlmdlhhphcoaaChecked
import GoSem.Claim
import GoSem.ClaimJoined
import GoSem.ClaimMapViews
import Derived.JoinedTies
import Derived.KernelRfl
namespace Go.Proofs.Ytnmlmdlhhphcoaa
/- THE CELL 'sum', in the pinned program and in every row, IS THE sha256 OF THE DUMP (.gsa) THAT YtnmlmdlhhphcoaaProg.lean LOADS. Nothing in Lean hashes anything: it is a label: what it is worth is what the hold of that sum in a sandbox is worth. -/
noncomputable def Try.pinned : Pinned := { name := "ytnmlmdlhhphcoaa", sum := "51bc75d445c1a39b6e30839de612e7deb46ac5cd61712ac447ef258839c0cd04", checked := Try.checked }
namespace Rows
def none {H : Type} : Left H := { results := [], args := [] }

/-- 'probecardlaw29.CubesLattice': WHATEVER THE INPUT: true; the input reads as it did. -/
def cubesLatticeSpec : ChangeSpec := { name := "cubesLattice", fn := fun _ => fun
  | [d1, d2] => { results := [.lit (.bool true)], args := [d1, d2] }
  | _ => none }
def cubesLatticeRow : OpenClaim := { program := "ytnmlmdlhhphcoaa", sum := "51bc75d445c1a39b6e30839de612e7deb46ac5cd61712ac447ef258839c0cd04", func := "probecard/probecardlaw29.CubesLattice", spec := "cubesLattice", inPlace := ["internal/bytealg.IndexByteString", "internal/bytealg.IndexString", "internal/abi.NoEscape"], unfollowed := true, recurses := true, named := ["internal/bytealg.MaxLen"], apart := false }
def CubesLatticeSaid : Prop := cubesLatticeRow.holds Try.pinned (OpenSpec.ofChange cubesLatticeSpec)

/-- ITS FALSE NEIGHBOUR: 'it returns false'. Refute it at one input. -/
def cubesLatticeWrong : ChangeSpec := { name := "cubesLattice", fn := fun _ => fun
  | [d1, d2] => { results := [.lit (.bool false)], args := [d1, d2] }
  | _ => none }
def CubesLatticeWrongFalsely : Prop := cubesLatticeRow.holds Try.pinned (OpenSpec.ofChange cubesLatticeWrong)

/-- 'probecardlaw29.CubesCompletes': WHATEVER THE INPUT: true; the input reads as it did. -/
def cubesCompletesSpec : ChangeSpec := { name := "cubesCompletes", fn := fun _ => fun
  | [d1, d2] => { results := [.lit (.bool true)], args := [d1, d2] }
  | _ => none }
def cubesCompletesRow : OpenClaim := { program := "ytnmlmdlhhphcoaa", sum := "51bc75d445c1a39b6e30839de612e7deb46ac5cd61712ac447ef258839c0cd04", func := "probecard/probecardlaw29.CubesCompletes", spec := "cubesCompletes", inPlace := ["internal/bytealg.IndexByteString", "internal/bytealg.IndexString", "internal/abi.NoEscape"], unfollowed := true, recurses := true, named := ["internal/bytealg.MaxLen"], apart := false }
def CubesCompletesSaid : Prop := cubesCompletesRow.holds Try.pinned (OpenSpec.ofChange cubesCompletesSpec)

/-- ITS FALSE NEIGHBOUR: 'it returns false'. Refute it at one input. -/
def cubesCompletesWrong : ChangeSpec := { name := "cubesCompletes", fn := fun _ => fun
  | [d1, d2] => { results := [.lit (.bool false)], args := [d1, d2] }
  | _ => none }
def CubesCompletesWrongFalsely : Prop := cubesCompletesRow.holds Try.pinned (OpenSpec.ofChange cubesCompletesWrong)

/-- 'probecardlaw29.CubesMerges': WHATEVER THE INPUT: true; the input reads as it did. -/
def cubesMergesSpec : ChangeSpec := { name := "cubesMerges", fn := fun _ => fun
  | [d1, d2, d3] => { results := [.lit (.bool true)], args := [d1, d2, d3] }
  | _ => none }
def cubesMergesRow : OpenClaim := { program := "ytnmlmdlhhphcoaa", sum := "51bc75d445c1a39b6e30839de612e7deb46ac5cd61712ac447ef258839c0cd04", func := "probecard/probecardlaw29.CubesMerges", spec := "cubesMerges", inPlace := ["internal/bytealg.IndexByteString", "internal/bytealg.IndexString", "internal/abi.NoEscape"], unfollowed := true, recurses := true, named := ["internal/bytealg.MaxLen"], apart := false }
def CubesMergesSaid : Prop := cubesMergesRow.holds Try.pinned (OpenSpec.ofChange cubesMergesSpec)

/-- ITS FALSE NEIGHBOUR: 'it returns false'. Refute it at one input. -/
def cubesMergesWrong : ChangeSpec := { name := "cubesMerges", fn := fun _ => fun
  | [d1, d2, d3] => { results := [.lit (.bool false)], args := [d1, d2, d3] }
  | _ => none }
def CubesMergesWrongFalsely : Prop := cubesMergesRow.holds Try.pinned (OpenSpec.ofChange cubesMergesWrong)

/-- 'probecardlaw29.CubesTexts': WHATEVER THE INPUT: true; the input reads as it did. -/
def cubesTextsSpec : ChangeSpec := { name := "cubesTexts", fn := fun _ => fun
  | [d1, d2] => { results := [.lit (.bool true)], args := [d1, d2] }
  | _ => none }
def cubesTextsRow : OpenClaim := { program := "ytnmlmdlhhphcoaa", sum := "51bc75d445c1a39b6e30839de612e7deb46ac5cd61712ac447ef258839c0cd04", func := "probecard/probecardlaw29.CubesTexts", spec := "cubesTexts", inPlace := ["internal/bytealg.IndexByteString", "internal/bytealg.IndexString", "internal/abi.NoEscape"], unfollowed := true, recurses := true, named := ["internal/bytealg.MaxLen"], apart := false }
def CubesTextsSaid : Prop := cubesTextsRow.holds Try.pinned (OpenSpec.ofChange cubesTextsSpec)

/-- ITS FALSE NEIGHBOUR: 'it returns false'. Refute it at one input. -/
def cubesTextsWrong : ChangeSpec := { name := "cubesTexts", fn := fun _ => fun
  | [d1, d2] => { results := [.lit (.bool false)], args := [d1, d2] }
  | _ => none }
def CubesTextsWrongFalsely : Prop := cubesTextsRow.holds Try.pinned (OpenSpec.ofChange cubesTextsWrong)

/-- 'probecardlaw29.CubesErrors': WHATEVER THE INPUT: true; the input reads as it did. -/
def cubesErrorsSpec : ChangeSpec := { name := "cubesErrors", fn := fun _ => fun
  | [d1, d2, d3] => { results := [.lit (.bool true)], args := [d1, d2, d3] }
  | _ => none }
def cubesErrorsRow : OpenClaim := { program := "ytnmlmdlhhphcoaa", sum := "51bc75d445c1a39b6e30839de612e7deb46ac5cd61712ac447ef258839c0cd04", func := "probecard/probecardlaw29.CubesErrors", spec := "cubesErrors", inPlace := ["internal/bytealg.IndexByteString", "internal/bytealg.IndexString", "internal/abi.NoEscape"], unfollowed := true, recurses := true, named := ["internal/bytealg.MaxLen"], apart := false }
def CubesErrorsSaid : Prop := cubesErrorsRow.holds Try.pinned (OpenSpec.ofChange cubesErrorsSpec)

/-- ITS FALSE NEIGHBOUR: 'it returns false'. Refute it at one input. -/
def cubesErrorsWrong : ChangeSpec := { name := "cubesErrors", fn := fun _ => fun
  | [d1, d2, d3] => { results := [.lit (.bool false)], args := [d1, d2, d3] }
  | _ => none }
def CubesErrorsWrongFalsely : Prop := cubesErrorsRow.holds Try.pinned (OpenSpec.ofChange cubesErrorsWrong)

/-- 'probecardlaw29.CubesKnown': WHATEVER THE INPUT: true; the input reads as it did. -/
def cubesKnownSpec : ChangeSpec := { name := "cubesKnown", fn := fun _ => fun
  | [] => { results := [.lit (.bool true)], args := [] }
  | _ => none }
def cubesKnownRow : OpenClaim := { program := "ytnmlmdlhhphcoaa", sum := "51bc75d445c1a39b6e30839de612e7deb46ac5cd61712ac447ef258839c0cd04", func := "probecard/probecardlaw29.CubesKnown", spec := "cubesKnown", inPlace := ["internal/bytealg.IndexByteString", "internal/bytealg.IndexString", "internal/abi.NoEscape"], unfollowed := true, recurses := true, named := ["internal/bytealg.MaxLen"], apart := false }
def CubesKnownSaid : Prop := cubesKnownRow.holds Try.pinned (OpenSpec.ofChange cubesKnownSpec)

/-- ITS FALSE NEIGHBOUR: 'it returns false'. Refute it at one input. -/
def cubesKnownWrong : ChangeSpec := { name := "cubesKnown", fn := fun _ => fun
  | [] => { results := [.lit (.bool false)], args := [] }
  | _ => none }
def CubesKnownWrongFalsely : Prop := cubesKnownRow.holds Try.pinned (OpenSpec.ofChange cubesKnownWrong)

/- THE SECOND FORM. 'bulk': how many values and letters a reading holds, each counted each time it is reached (what is shared counts as often as it is met; a slice's spare places count too). A statement '..UptoSaid' is the law's where the arguments, and the package variables that the reading takes, are together of bulk at most 1048576: NARROWER than '..Said'. Prove '..Said' where nothing that the law and all that it calls make is longer than what came in: it says more and counts as full. Else prove '..UptoSaid'. A law counts once. -/
mutual
def uptoBulk {H : Type} : DataW H → Nat
  | .lit (.string bytes) => bytes.length + 1
  | .lit _ => 1
  | .nil => 1
  | .ptr d => uptoBulk d + 1
  | .slice elems spare => uptoBulkAll elems + uptoBulkAll spare + 1
  | .agg parts => uptoBulkAll parts + 1
  | .iface _ d => uptoBulk d + 1
  | .map entries => uptoBulkEntries entries + 1
  | .held _ => 1
def uptoBulkAll {H : Type} : List (DataW H) → Nat
  | [] => 0
  | d :: r => uptoBulk d + uptoBulkAll r
def uptoBulkEntries {H : Type} : List (Lit × DataW H) → Nat
  | [] => 0
  | x :: r => uptoBulkEntry x + uptoBulkEntries r
def uptoBulkEntry {H : Type} : Lit × DataW H → Nat
  | (.string bytes, d) => bytes.length + uptoBulk d + 1
  | (_, d) => uptoBulk d + 1
 end
def uptoSmall : (H : Type) → List (DataW H) → Bool := fun _ ds => decide (uptoBulkAll ds ≤ 1048576)
def OpenSpec.upto (s : _root_.Go.ChangeSpec) : _root_.Go.OpenSpec := { _root_.Go.OpenSpec.ofChange s with cond := some uptoSmall }

/-- 'probecardlaw29.CubesLattice', WHERE WHAT IT READS IS OF BULK AT MOST 1048576: true; the input reads as it did. -/
def cubesLatticeUptoRow : OpenClaim := { program := "ytnmlmdlhhphcoaa", sum := "51bc75d445c1a39b6e30839de612e7deb46ac5cd61712ac447ef258839c0cd04", func := "probecard/probecardlaw29.CubesLattice", spec := "cubesLattice", inPlace := ["internal/bytealg.IndexByteString", "internal/bytealg.IndexString", "internal/abi.NoEscape"], unfollowed := true, recurses := true, named := ["internal/bytealg.MaxLen"], apart := false, narrowed := true }
def CubesLatticeUptoSaid : Prop := cubesLatticeUptoRow.holds Try.pinned (OpenSpec.upto cubesLatticeSpec)

/-- 'probecardlaw29.CubesCompletes', WHERE WHAT IT READS IS OF BULK AT MOST 1048576: true; the input reads as it did. -/
def cubesCompletesUptoRow : OpenClaim := { program := "ytnmlmdlhhphcoaa", sum := "51bc75d445c1a39b6e30839de612e7deb46ac5cd61712ac447ef258839c0cd04", func := "probecard/probecardlaw29.CubesCompletes", spec := "cubesCompletes", inPlace := ["internal/bytealg.IndexByteString", "internal/bytealg.IndexString", "internal/abi.NoEscape"], unfollowed := true, recurses := true, named := ["internal/bytealg.MaxLen"], apart := false, narrowed := true }
def CubesCompletesUptoSaid : Prop := cubesCompletesUptoRow.holds Try.pinned (OpenSpec.upto cubesCompletesSpec)

/-- 'probecardlaw29.CubesMerges', WHERE WHAT IT READS IS OF BULK AT MOST 1048576: true; the input reads as it did. -/
def cubesMergesUptoRow : OpenClaim := { program := "ytnmlmdlhhphcoaa", sum := "51bc75d445c1a39b6e30839de612e7deb46ac5cd61712ac447ef258839c0cd04", func := "probecard/probecardlaw29.CubesMerges", spec := "cubesMerges", inPlace := ["internal/bytealg.IndexByteString", "internal/bytealg.IndexString", "internal/abi.NoEscape"], unfollowed := true, recurses := true, named := ["internal/bytealg.MaxLen"], apart := false, narrowed := true }
def CubesMergesUptoSaid : Prop := cubesMergesUptoRow.holds Try.pinned (OpenSpec.upto cubesMergesSpec)

/-- 'probecardlaw29.CubesTexts', WHERE WHAT IT READS IS OF BULK AT MOST 1048576: true; the input reads as it did. -/
def cubesTextsUptoRow : OpenClaim := { program := "ytnmlmdlhhphcoaa", sum := "51bc75d445c1a39b6e30839de612e7deb46ac5cd61712ac447ef258839c0cd04", func := "probecard/probecardlaw29.CubesTexts", spec := "cubesTexts", inPlace := ["internal/bytealg.IndexByteString", "internal/bytealg.IndexString", "internal/abi.NoEscape"], unfollowed := true, recurses := true, named := ["internal/bytealg.MaxLen"], apart := false, narrowed := true }
def CubesTextsUptoSaid : Prop := cubesTextsUptoRow.holds Try.pinned (OpenSpec.upto cubesTextsSpec)

/-- 'probecardlaw29.CubesErrors', WHERE WHAT IT READS IS OF BULK AT MOST 1048576: true; the input reads as it did. -/
def cubesErrorsUptoRow : OpenClaim := { program := "ytnmlmdlhhphcoaa", sum := "51bc75d445c1a39b6e30839de612e7deb46ac5cd61712ac447ef258839c0cd04", func := "probecard/probecardlaw29.CubesErrors", spec := "cubesErrors", inPlace := ["internal/bytealg.IndexByteString", "internal/bytealg.IndexString", "internal/abi.NoEscape"], unfollowed := true, recurses := true, named := ["internal/bytealg.MaxLen"], apart := false, narrowed := true }
def CubesErrorsUptoSaid : Prop := cubesErrorsUptoRow.holds Try.pinned (OpenSpec.upto cubesErrorsSpec)

/-- 'probecardlaw29.CubesKnown', WHERE WHAT IT READS IS OF BULK AT MOST 1048576: true; the input reads as it did. -/
def cubesKnownUptoRow : OpenClaim := { program := "ytnmlmdlhhphcoaa", sum := "51bc75d445c1a39b6e30839de612e7deb46ac5cd61712ac447ef258839c0cd04", func := "probecard/probecardlaw29.CubesKnown", spec := "cubesKnown", inPlace := ["internal/bytealg.IndexByteString", "internal/bytealg.IndexString", "internal/abi.NoEscape"], unfollowed := true, recurses := true, named := ["internal/bytealg.MaxLen"], apart := false, narrowed := true }
def CubesKnownUptoSaid : Prop := cubesKnownUptoRow.holds Try.pinned (OpenSpec.upto cubesKnownSpec)

end Rows
end Go.Proofs.Ytnmlmdlhhphcoaa
