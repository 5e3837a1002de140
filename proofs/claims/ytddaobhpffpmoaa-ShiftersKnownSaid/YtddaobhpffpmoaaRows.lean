/-
  No cell of these rows narrows 'for every input' (looked for: loops, veiled, ifaces, maps, wideKeys, modest, calm, conditions, laid).
  DERIVED. THE GIVEN ROWS OF THIS SEAT. 15 by the template 'for every input the law returns true; each argument reads behind the call as it read before'; 0 by the template 'total and deterministic' (their statements: YtddaobhpffpmoaaTotals.lean).
  GIVEN WITH THE SEED: the statements are not yours to turn. If you find one false, say at which input.
  Laid BY PROGRAM, IN A SANDBOX (cutbox-rows.mjs): the forced cells as the released guide's own fill.sh prints them over the translation cc4c44cce658e1fc… (all of the seat's roots in one cut). By AI agents, Wed Nov 11 2026. No macro, syntax, notation, axiom, sorry.
-/
import Derived.Test.YtddaobhpffpmoaaChecked
import GoSem.Claim
import GoSem.ClaimJoined
import GoSem.ClaimMapViews
import Derived.JoinedTies
import Derived.KernelRfl
namespace Go.Proofs.Ytddaobhpffpmoaa
/- THE CELL 'sum', in the pinned program and in every row, IS THE sha256 OF THE DUMP (.gsa) THAT YtddaobhpffpmoaaProg.lean LOADS. Nothing in Lean hashes anything: it is a label: what it is worth is what the hold of that sum in a sandbox is worth. -/
noncomputable def Try.pinned : Pinned := { name := "ytddaobhpffpmoaa", sum := "cc4c44cce658e1fcdb57e5a906f9cb60b83dd7856520cf4237ec56cf7f3a0436", checked := Try.checked }
namespace Rows
def none {H : Type} : Left H := { results := [], args := [] }

/-- 'probecardlaw31.Gf2sSolves': WHATEVER THE INPUT: true; the input reads as it did. -/
def gf2sSolvesSpec : ChangeSpec := { name := "gf2sSolves", fn := fun _ => fun
  | [d1, d2] => { results := [.lit (.bool true)], args := [d1, d2] }
  | _ => none }
def gf2sSolvesRow : OpenClaim := { program := "ytddaobhpffpmoaa", sum := "cc4c44cce658e1fcdb57e5a906f9cb60b83dd7856520cf4237ec56cf7f3a0436", func := "probecard/probecardlaw31.Gf2sSolves", spec := "gf2sSolves", inPlace := ["internal/abi.NoEscape"], unfollowed := true, recurses := true, apart := false }
def Gf2sSolvesSaid : Prop := gf2sSolvesRow.holds Try.pinned (OpenSpec.ofChange gf2sSolvesSpec)

/-- ITS FALSE NEIGHBOUR: 'it returns false'. Refute it at one input. -/
def gf2sSolvesWrong : ChangeSpec := { name := "gf2sSolves", fn := fun _ => fun
  | [d1, d2] => { results := [.lit (.bool false)], args := [d1, d2] }
  | _ => none }
def Gf2sSolvesWrongFalsely : Prop := gf2sSolvesRow.holds Try.pinned (OpenSpec.ofChange gf2sSolvesWrong)

/-- 'probecardlaw31.Gf2sVecs': WHATEVER THE INPUT: true; the input reads as it did. -/
def gf2sVecsSpec : ChangeSpec := { name := "gf2sVecs", fn := fun _ => fun
  | [d1, d2] => { results := [.lit (.bool true)], args := [d1, d2] }
  | _ => none }
def gf2sVecsRow : OpenClaim := { program := "ytddaobhpffpmoaa", sum := "cc4c44cce658e1fcdb57e5a906f9cb60b83dd7856520cf4237ec56cf7f3a0436", func := "probecard/probecardlaw31.Gf2sVecs", spec := "gf2sVecs", inPlace := ["internal/abi.NoEscape"], unfollowed := true, recurses := true, apart := false }
def Gf2sVecsSaid : Prop := gf2sVecsRow.holds Try.pinned (OpenSpec.ofChange gf2sVecsSpec)

/-- ITS FALSE NEIGHBOUR: 'it returns false'. Refute it at one input. -/
def gf2sVecsWrong : ChangeSpec := { name := "gf2sVecs", fn := fun _ => fun
  | [d1, d2] => { results := [.lit (.bool false)], args := [d1, d2] }
  | _ => none }
def Gf2sVecsWrongFalsely : Prop := gf2sVecsRow.holds Try.pinned (OpenSpec.ofChange gf2sVecsWrong)

/-- 'probecardlaw31.Gf2sPivots': WHATEVER THE INPUT: true; the input reads as it did. -/
def gf2sPivotsSpec : ChangeSpec := { name := "gf2sPivots", fn := fun _ => fun
  | [d1, d2] => { results := [.lit (.bool true)], args := [d1, d2] }
  | _ => none }
def gf2sPivotsRow : OpenClaim := { program := "ytddaobhpffpmoaa", sum := "cc4c44cce658e1fcdb57e5a906f9cb60b83dd7856520cf4237ec56cf7f3a0436", func := "probecard/probecardlaw31.Gf2sPivots", spec := "gf2sPivots", inPlace := ["internal/abi.NoEscape"], unfollowed := true, recurses := true, apart := false }
def Gf2sPivotsSaid : Prop := gf2sPivotsRow.holds Try.pinned (OpenSpec.ofChange gf2sPivotsSpec)

/-- ITS FALSE NEIGHBOUR: 'it returns false'. Refute it at one input. -/
def gf2sPivotsWrong : ChangeSpec := { name := "gf2sPivots", fn := fun _ => fun
  | [d1, d2] => { results := [.lit (.bool false)], args := [d1, d2] }
  | _ => none }
def Gf2sPivotsWrongFalsely : Prop := gf2sPivotsRow.holds Try.pinned (OpenSpec.ofChange gf2sPivotsWrong)

/-- 'probecardlaw31.Gf2sProducts': WHATEVER THE INPUT: true; the input reads as it did. -/
def gf2sProductsSpec : ChangeSpec := { name := "gf2sProducts", fn := fun _ => fun
  | [d1, d2, d3] => { results := [.lit (.bool true)], args := [d1, d2, d3] }
  | _ => none }
def gf2sProductsRow : OpenClaim := { program := "ytddaobhpffpmoaa", sum := "cc4c44cce658e1fcdb57e5a906f9cb60b83dd7856520cf4237ec56cf7f3a0436", func := "probecard/probecardlaw31.Gf2sProducts", spec := "gf2sProducts", inPlace := ["internal/abi.NoEscape"], unfollowed := true, recurses := true, apart := false }
def Gf2sProductsSaid : Prop := gf2sProductsRow.holds Try.pinned (OpenSpec.ofChange gf2sProductsSpec)

/-- ITS FALSE NEIGHBOUR: 'it returns false'. Refute it at one input. -/
def gf2sProductsWrong : ChangeSpec := { name := "gf2sProducts", fn := fun _ => fun
  | [d1, d2, d3] => { results := [.lit (.bool false)], args := [d1, d2, d3] }
  | _ => none }
def Gf2sProductsWrongFalsely : Prop := gf2sProductsRow.holds Try.pinned (OpenSpec.ofChange gf2sProductsWrong)

/-- 'probecardlaw31.Gf2sRing': WHATEVER THE INPUT: true; the input reads as it did. -/
def gf2sRingSpec : ChangeSpec := { name := "gf2sRing", fn := fun _ => fun
  | [d1, d2, d3] => { results := [.lit (.bool true)], args := [d1, d2, d3] }
  | _ => none }
def gf2sRingRow : OpenClaim := { program := "ytddaobhpffpmoaa", sum := "cc4c44cce658e1fcdb57e5a906f9cb60b83dd7856520cf4237ec56cf7f3a0436", func := "probecard/probecardlaw31.Gf2sRing", spec := "gf2sRing", inPlace := ["internal/abi.NoEscape"], unfollowed := true, recurses := true, apart := false }
def Gf2sRingSaid : Prop := gf2sRingRow.holds Try.pinned (OpenSpec.ofChange gf2sRingSpec)

/-- ITS FALSE NEIGHBOUR: 'it returns false'. Refute it at one input. -/
def gf2sRingWrong : ChangeSpec := { name := "gf2sRing", fn := fun _ => fun
  | [d1, d2, d3] => { results := [.lit (.bool false)], args := [d1, d2, d3] }
  | _ => none }
def Gf2sRingWrongFalsely : Prop := gf2sRingRow.holds Try.pinned (OpenSpec.ofChange gf2sRingWrong)

/-- 'probecardlaw31.Gf2sInverse': WHATEVER THE INPUT: true; the input reads as it did. -/
def gf2sInverseSpec : ChangeSpec := { name := "gf2sInverse", fn := fun _ => fun
  | [d1, d2] => { results := [.lit (.bool true)], args := [d1, d2] }
  | _ => none }
def gf2sInverseRow : OpenClaim := { program := "ytddaobhpffpmoaa", sum := "cc4c44cce658e1fcdb57e5a906f9cb60b83dd7856520cf4237ec56cf7f3a0436", func := "probecard/probecardlaw31.Gf2sInverse", spec := "gf2sInverse", inPlace := ["internal/abi.NoEscape"], unfollowed := true, recurses := true, apart := false }
def Gf2sInverseSaid : Prop := gf2sInverseRow.holds Try.pinned (OpenSpec.ofChange gf2sInverseSpec)

/-- ITS FALSE NEIGHBOUR: 'it returns false'. Refute it at one input. -/
def gf2sInverseWrong : ChangeSpec := { name := "gf2sInverse", fn := fun _ => fun
  | [d1, d2] => { results := [.lit (.bool false)], args := [d1, d2] }
  | _ => none }
def Gf2sInverseWrongFalsely : Prop := gf2sInverseRow.holds Try.pinned (OpenSpec.ofChange gf2sInverseWrong)

/-- 'probecardlaw31.Gf2sErrors': WHATEVER THE INPUT: true; the input reads as it did. -/
def gf2sErrorsSpec : ChangeSpec := { name := "gf2sErrors", fn := fun _ => fun
  | [d1, d2, d3] => { results := [.lit (.bool true)], args := [d1, d2, d3] }
  | _ => none }
def gf2sErrorsRow : OpenClaim := { program := "ytddaobhpffpmoaa", sum := "cc4c44cce658e1fcdb57e5a906f9cb60b83dd7856520cf4237ec56cf7f3a0436", func := "probecard/probecardlaw31.Gf2sErrors", spec := "gf2sErrors", inPlace := ["internal/abi.NoEscape"], unfollowed := true, recurses := true, apart := false }
def Gf2sErrorsSaid : Prop := gf2sErrorsRow.holds Try.pinned (OpenSpec.ofChange gf2sErrorsSpec)

/-- ITS FALSE NEIGHBOUR: 'it returns false'. Refute it at one input. -/
def gf2sErrorsWrong : ChangeSpec := { name := "gf2sErrors", fn := fun _ => fun
  | [d1, d2, d3] => { results := [.lit (.bool false)], args := [d1, d2, d3] }
  | _ => none }
def Gf2sErrorsWrongFalsely : Prop := gf2sErrorsRow.holds Try.pinned (OpenSpec.ofChange gf2sErrorsWrong)

/-- 'probecardlaw31.Gf2sKnown': WHATEVER THE INPUT: true; the input reads as it did. -/
def gf2sKnownSpec : ChangeSpec := { name := "gf2sKnown", fn := fun _ => fun
  | [] => { results := [.lit (.bool true)], args := [] }
  | _ => none }
def gf2sKnownRow : OpenClaim := { program := "ytddaobhpffpmoaa", sum := "cc4c44cce658e1fcdb57e5a906f9cb60b83dd7856520cf4237ec56cf7f3a0436", func := "probecard/probecardlaw31.Gf2sKnown", spec := "gf2sKnown", inPlace := ["internal/abi.NoEscape"], unfollowed := true, recurses := true, apart := false }
def Gf2sKnownSaid : Prop := gf2sKnownRow.holds Try.pinned (OpenSpec.ofChange gf2sKnownSpec)

/-- ITS FALSE NEIGHBOUR: 'it returns false'. Refute it at one input. -/
def gf2sKnownWrong : ChangeSpec := { name := "gf2sKnown", fn := fun _ => fun
  | [] => { results := [.lit (.bool false)], args := [] }
  | _ => none }
def Gf2sKnownWrongFalsely : Prop := gf2sKnownRow.holds Try.pinned (OpenSpec.ofChange gf2sKnownWrong)

/-- 'probecardlaw32.ShiftersReturns': WHATEVER THE INPUT: true; the input reads as it did. -/
def shiftersReturnsSpec : ChangeSpec := { name := "shiftersReturns", fn := fun _ => fun
  | [d1, d2, d3] => { results := [.lit (.bool true)], args := [d1, d2, d3] }
  | _ => none }
def shiftersReturnsRow : OpenClaim := { program := "ytddaobhpffpmoaa", sum := "cc4c44cce658e1fcdb57e5a906f9cb60b83dd7856520cf4237ec56cf7f3a0436", func := "probecard/probecardlaw32.ShiftersReturns", spec := "shiftersReturns", unfollowed := true, recurses := true, apart := false }
def ShiftersReturnsSaid : Prop := shiftersReturnsRow.holds Try.pinned (OpenSpec.ofChange shiftersReturnsSpec)

/-- ITS FALSE NEIGHBOUR: 'it returns false'. Refute it at one input. -/
def shiftersReturnsWrong : ChangeSpec := { name := "shiftersReturns", fn := fun _ => fun
  | [d1, d2, d3] => { results := [.lit (.bool false)], args := [d1, d2, d3] }
  | _ => none }
def ShiftersReturnsWrongFalsely : Prop := shiftersReturnsRow.holds Try.pinned (OpenSpec.ofChange shiftersReturnsWrong)

/-- 'probecardlaw32.ShiftersEncodes': WHATEVER THE INPUT: true; the input reads as it did. -/
def shiftersEncodesSpec : ChangeSpec := { name := "shiftersEncodes", fn := fun _ => fun
  | [d1, d2, d3] => { results := [.lit (.bool true)], args := [d1, d2, d3] }
  | _ => none }
def shiftersEncodesRow : OpenClaim := { program := "ytddaobhpffpmoaa", sum := "cc4c44cce658e1fcdb57e5a906f9cb60b83dd7856520cf4237ec56cf7f3a0436", func := "probecard/probecardlaw32.ShiftersEncodes", spec := "shiftersEncodes", unfollowed := true, recurses := true, apart := false }
def ShiftersEncodesSaid : Prop := shiftersEncodesRow.holds Try.pinned (OpenSpec.ofChange shiftersEncodesSpec)

/-- ITS FALSE NEIGHBOUR: 'it returns false'. Refute it at one input. -/
def shiftersEncodesWrong : ChangeSpec := { name := "shiftersEncodes", fn := fun _ => fun
  | [d1, d2, d3] => { results := [.lit (.bool false)], args := [d1, d2, d3] }
  | _ => none }
def ShiftersEncodesWrongFalsely : Prop := shiftersEncodesRow.holds Try.pinned (OpenSpec.ofChange shiftersEncodesWrong)

/-- 'probecardlaw32.ShiftersUnsat': WHATEVER THE INPUT: true; the input reads as it did. -/
def shiftersUnsatSpec : ChangeSpec := { name := "shiftersUnsat", fn := fun _ => fun
  | [d1, d2] => { results := [.lit (.bool true)], args := [d1, d2] }
  | _ => none }
def shiftersUnsatRow : OpenClaim := { program := "ytddaobhpffpmoaa", sum := "cc4c44cce658e1fcdb57e5a906f9cb60b83dd7856520cf4237ec56cf7f3a0436", func := "probecard/probecardlaw32.ShiftersUnsat", spec := "shiftersUnsat", unfollowed := true, recurses := true, apart := false }
def ShiftersUnsatSaid : Prop := shiftersUnsatRow.holds Try.pinned (OpenSpec.ofChange shiftersUnsatSpec)

/-- ITS FALSE NEIGHBOUR: 'it returns false'. Refute it at one input. -/
def shiftersUnsatWrong : ChangeSpec := { name := "shiftersUnsat", fn := fun _ => fun
  | [d1, d2] => { results := [.lit (.bool false)], args := [d1, d2] }
  | _ => none }
def ShiftersUnsatWrongFalsely : Prop := shiftersUnsatRow.holds Try.pinned (OpenSpec.ofChange shiftersUnsatWrong)

/-- 'probecardlaw32.ShiftersExpands': WHATEVER THE INPUT: true; the input reads as it did. -/
def shiftersExpandsSpec : ChangeSpec := { name := "shiftersExpands", fn := fun _ => fun
  | [d1, d2] => { results := [.lit (.bool true)], args := [d1, d2] }
  | _ => none }
def shiftersExpandsRow : OpenClaim := { program := "ytddaobhpffpmoaa", sum := "cc4c44cce658e1fcdb57e5a906f9cb60b83dd7856520cf4237ec56cf7f3a0436", func := "probecard/probecardlaw32.ShiftersExpands", spec := "shiftersExpands", unfollowed := true, recurses := true, apart := false }
def ShiftersExpandsSaid : Prop := shiftersExpandsRow.holds Try.pinned (OpenSpec.ofChange shiftersExpandsSpec)

/-- ITS FALSE NEIGHBOUR: 'it returns false'. Refute it at one input. -/
def shiftersExpandsWrong : ChangeSpec := { name := "shiftersExpands", fn := fun _ => fun
  | [d1, d2] => { results := [.lit (.bool false)], args := [d1, d2] }
  | _ => none }
def ShiftersExpandsWrongFalsely : Prop := shiftersExpandsRow.holds Try.pinned (OpenSpec.ofChange shiftersExpandsWrong)

/-- 'probecardlaw32.ShiftersErrors': WHATEVER THE INPUT: true; the input reads as it did. -/
def shiftersErrorsSpec : ChangeSpec := { name := "shiftersErrors", fn := fun _ => fun
  | [d1, d2] => { results := [.lit (.bool true)], args := [d1, d2] }
  | _ => none }
def shiftersErrorsRow : OpenClaim := { program := "ytddaobhpffpmoaa", sum := "cc4c44cce658e1fcdb57e5a906f9cb60b83dd7856520cf4237ec56cf7f3a0436", func := "probecard/probecardlaw32.ShiftersErrors", spec := "shiftersErrors", unfollowed := true, recurses := true, apart := false }
def ShiftersErrorsSaid : Prop := shiftersErrorsRow.holds Try.pinned (OpenSpec.ofChange shiftersErrorsSpec)

/-- ITS FALSE NEIGHBOUR: 'it returns false'. Refute it at one input. -/
def shiftersErrorsWrong : ChangeSpec := { name := "shiftersErrors", fn := fun _ => fun
  | [d1, d2] => { results := [.lit (.bool false)], args := [d1, d2] }
  | _ => none }
def ShiftersErrorsWrongFalsely : Prop := shiftersErrorsRow.holds Try.pinned (OpenSpec.ofChange shiftersErrorsWrong)

/-- 'probecardlaw32.ShiftersSteps': WHATEVER THE INPUT: true; the input reads as it did. -/
def shiftersStepsSpec : ChangeSpec := { name := "shiftersSteps", fn := fun _ => fun
  | [d1, d2, d3] => { results := [.lit (.bool true)], args := [d1, d2, d3] }
  | _ => none }
def shiftersStepsRow : OpenClaim := { program := "ytddaobhpffpmoaa", sum := "cc4c44cce658e1fcdb57e5a906f9cb60b83dd7856520cf4237ec56cf7f3a0436", func := "probecard/probecardlaw32.ShiftersSteps", spec := "shiftersSteps", inPlace := ["internal/abi.NoEscape"], unfollowed := true, recurses := true, apart := false }
def ShiftersStepsSaid : Prop := shiftersStepsRow.holds Try.pinned (OpenSpec.ofChange shiftersStepsSpec)

/-- ITS FALSE NEIGHBOUR: 'it returns false'. Refute it at one input. -/
def shiftersStepsWrong : ChangeSpec := { name := "shiftersSteps", fn := fun _ => fun
  | [d1, d2, d3] => { results := [.lit (.bool false)], args := [d1, d2, d3] }
  | _ => none }
def ShiftersStepsWrongFalsely : Prop := shiftersStepsRow.holds Try.pinned (OpenSpec.ofChange shiftersStepsWrong)

/-- 'probecardlaw32.ShiftersKnown': WHATEVER THE INPUT: true; the input reads as it did. -/
def shiftersKnownSpec : ChangeSpec := { name := "shiftersKnown", fn := fun _ => fun
  | [] => { results := [.lit (.bool true)], args := [] }
  | _ => none }
def shiftersKnownRow : OpenClaim := { program := "ytddaobhpffpmoaa", sum := "cc4c44cce658e1fcdb57e5a906f9cb60b83dd7856520cf4237ec56cf7f3a0436", func := "probecard/probecardlaw32.ShiftersKnown", spec := "shiftersKnown", inPlace := ["internal/abi.NoEscape"], unfollowed := true, recurses := true, apart := false }
def ShiftersKnownSaid : Prop := shiftersKnownRow.holds Try.pinned (OpenSpec.ofChange shiftersKnownSpec)

/-- ITS FALSE NEIGHBOUR: 'it returns false'. Refute it at one input. -/
def shiftersKnownWrong : ChangeSpec := { name := "shiftersKnown", fn := fun _ => fun
  | [] => { results := [.lit (.bool false)], args := [] }
  | _ => none }
def ShiftersKnownWrongFalsely : Prop := shiftersKnownRow.holds Try.pinned (OpenSpec.ofChange shiftersKnownWrong)

/- THE SECOND FORM. 'bulk': how many values and letters a reading holds, each counted each time it is reached (what is shared counts as often as it is met; a slice's spare places count too). A statement '..UptoSaid' is the law's where the arguments, and the package variables that the reading takes, are together of bulk at most 1048576: NARROWER than '..Said'. Prove '..Said' where nothing that the law and all that it calls make is longer than what came in: it says more and counts as full. Else prove '..UptoSaid'. A law counts once. -/
mutual
def uptoBulk {H : Type} : DataW H → Nat
  | .lit (.string bytes) => bytes.length + 1
  | .lit _ => 1
  | .nil => 1
  | .ptr d => uptoBulk d + 1
  | .slice elems spare => uptoBulkAll elems + uptoBulkAll spare + 1
  | .agg parts => uptoBulkAll parts + 1
  | .iface _ d => uptoBulk d + 1
  | .map entries => uptoBulkEntries entries + 1
  | .held _ => 1
def uptoBulkAll {H : Type} : List (DataW H) → Nat
  | [] => 0
  | d :: r => uptoBulk d + uptoBulkAll r
def uptoBulkEntries {H : Type} : List (Lit × DataW H) → Nat
  | [] => 0
  | x :: r => uptoBulkEntry x + uptoBulkEntries r
def uptoBulkEntry {H : Type} : Lit × DataW H → Nat
  | (.string bytes, d) => bytes.length + uptoBulk d + 1
  | (_, d) => uptoBulk d + 1
 end
def uptoSmall : (H : Type) → List (DataW H) → Bool := fun _ ds => decide (uptoBulkAll ds ≤ 1048576)
def OpenSpec.upto (s : _root_.Go.ChangeSpec) : _root_.Go.OpenSpec := { _root_.Go.OpenSpec.ofChange s with cond := some uptoSmall }

/-- 'probecardlaw31.Gf2sSolves', WHERE WHAT IT READS IS OF BULK AT MOST 1048576: true; the input reads as it did. -/
def gf2sSolvesUptoRow : OpenClaim := { program := "ytddaobhpffpmoaa", sum := "cc4c44cce658e1fcdb57e5a906f9cb60b83dd7856520cf4237ec56cf7f3a0436", func := "probecard/probecardlaw31.Gf2sSolves", spec := "gf2sSolves", inPlace := ["internal/abi.NoEscape"], unfollowed := true, recurses := true, apart := false, narrowed := true }
def Gf2sSolvesUptoSaid : Prop := gf2sSolvesUptoRow.holds Try.pinned (OpenSpec.upto gf2sSolvesSpec)

/-- 'probecardlaw31.Gf2sVecs', WHERE WHAT IT READS IS OF BULK AT MOST 1048576: true; the input reads as it did. -/
def gf2sVecsUptoRow : OpenClaim := { program := "ytddaobhpffpmoaa", sum := "cc4c44cce658e1fcdb57e5a906f9cb60b83dd7856520cf4237ec56cf7f3a0436", func := "probecard/probecardlaw31.Gf2sVecs", spec := "gf2sVecs", inPlace := ["internal/abi.NoEscape"], unfollowed := true, recurses := true, apart := false, narrowed := true }
def Gf2sVecsUptoSaid : Prop := gf2sVecsUptoRow.holds Try.pinned (OpenSpec.upto gf2sVecsSpec)

/-- 'probecardlaw31.Gf2sPivots', WHERE WHAT IT READS IS OF BULK AT MOST 1048576: true; the input reads as it did. -/
def gf2sPivotsUptoRow : OpenClaim := { program := "ytddaobhpffpmoaa", sum := "cc4c44cce658e1fcdb57e5a906f9cb60b83dd7856520cf4237ec56cf7f3a0436", func := "probecard/probecardlaw31.Gf2sPivots", spec := "gf2sPivots", inPlace := ["internal/abi.NoEscape"], unfollowed := true, recurses := true, apart := false, narrowed := true }
def Gf2sPivotsUptoSaid : Prop := gf2sPivotsUptoRow.holds Try.pinned (OpenSpec.upto gf2sPivotsSpec)

/-- 'probecardlaw31.Gf2sProducts', WHERE WHAT IT READS IS OF BULK AT MOST 1048576: true; the input reads as it did. -/
def gf2sProductsUptoRow : OpenClaim := { program := "ytddaobhpffpmoaa", sum := "cc4c44cce658e1fcdb57e5a906f9cb60b83dd7856520cf4237ec56cf7f3a0436", func := "probecard/probecardlaw31.Gf2sProducts", spec := "gf2sProducts", inPlace := ["internal/abi.NoEscape"], unfollowed := true, recurses := true, apart := false, narrowed := true }
def Gf2sProductsUptoSaid : Prop := gf2sProductsUptoRow.holds Try.pinned (OpenSpec.upto gf2sProductsSpec)

/-- 'probecardlaw31.Gf2sRing', WHERE WHAT IT READS IS OF BULK AT MOST 1048576: true; the input reads as it did. -/
def gf2sRingUptoRow : OpenClaim := { program := "ytddaobhpffpmoaa", sum := "cc4c44cce658e1fcdb57e5a906f9cb60b83dd7856520cf4237ec56cf7f3a0436", func := "probecard/probecardlaw31.Gf2sRing", spec := "gf2sRing", inPlace := ["internal/abi.NoEscape"], unfollowed := true, recurses := true, apart := false, narrowed := true }
def Gf2sRingUptoSaid : Prop := gf2sRingUptoRow.holds Try.pinned (OpenSpec.upto gf2sRingSpec)

/-- 'probecardlaw31.Gf2sInverse', WHERE WHAT IT READS IS OF BULK AT MOST 1048576: true; the input reads as it did. -/
def gf2sInverseUptoRow : OpenClaim := { program := "ytddaobhpffpmoaa", sum := "cc4c44cce658e1fcdb57e5a906f9cb60b83dd7856520cf4237ec56cf7f3a0436", func := "probecard/probecardlaw31.Gf2sInverse", spec := "gf2sInverse", inPlace := ["internal/abi.NoEscape"], unfollowed := true, recurses := true, apart := false, narrowed := true }
def Gf2sInverseUptoSaid : Prop := gf2sInverseUptoRow.holds Try.pinned (OpenSpec.upto gf2sInverseSpec)

/-- 'probecardlaw31.Gf2sErrors', WHERE WHAT IT READS IS OF BULK AT MOST 1048576: true; the input reads as it did. -/
def gf2sErrorsUptoRow : OpenClaim := { program := "ytddaobhpffpmoaa", sum := "cc4c44cce658e1fcdb57e5a906f9cb60b83dd7856520cf4237ec56cf7f3a0436", func := "probecard/probecardlaw31.Gf2sErrors", spec := "gf2sErrors", inPlace := ["internal/abi.NoEscape"], unfollowed := true, recurses := true, apart := false, narrowed := true }
def Gf2sErrorsUptoSaid : Prop := gf2sErrorsUptoRow.holds Try.pinned (OpenSpec.upto gf2sErrorsSpec)

/-- 'probecardlaw31.Gf2sKnown', WHERE WHAT IT READS IS OF BULK AT MOST 1048576: true; the input reads as it did. -/
def gf2sKnownUptoRow : OpenClaim := { program := "ytddaobhpffpmoaa", sum := "cc4c44cce658e1fcdb57e5a906f9cb60b83dd7856520cf4237ec56cf7f3a0436", func := "probecard/probecardlaw31.Gf2sKnown", spec := "gf2sKnown", inPlace := ["internal/abi.NoEscape"], unfollowed := true, recurses := true, apart := false, narrowed := true }
def Gf2sKnownUptoSaid : Prop := gf2sKnownUptoRow.holds Try.pinned (OpenSpec.upto gf2sKnownSpec)

/-- 'probecardlaw32.ShiftersReturns', WHERE WHAT IT READS IS OF BULK AT MOST 1048576: true; the input reads as it did. -/
def shiftersReturnsUptoRow : OpenClaim := { program := "ytddaobhpffpmoaa", sum := "cc4c44cce658e1fcdb57e5a906f9cb60b83dd7856520cf4237ec56cf7f3a0436", func := "probecard/probecardlaw32.ShiftersReturns", spec := "shiftersReturns", unfollowed := true, recurses := true, apart := false, narrowed := true }
def ShiftersReturnsUptoSaid : Prop := shiftersReturnsUptoRow.holds Try.pinned (OpenSpec.upto shiftersReturnsSpec)

/-- 'probecardlaw32.ShiftersEncodes', WHERE WHAT IT READS IS OF BULK AT MOST 1048576: true; the input reads as it did. -/
def shiftersEncodesUptoRow : OpenClaim := { program := "ytddaobhpffpmoaa", sum := "cc4c44cce658e1fcdb57e5a906f9cb60b83dd7856520cf4237ec56cf7f3a0436", func := "probecard/probecardlaw32.ShiftersEncodes", spec := "shiftersEncodes", unfollowed := true, recurses := true, apart := false, narrowed := true }
def ShiftersEncodesUptoSaid : Prop := shiftersEncodesUptoRow.holds Try.pinned (OpenSpec.upto shiftersEncodesSpec)

/-- 'probecardlaw32.ShiftersUnsat', WHERE WHAT IT READS IS OF BULK AT MOST 1048576: true; the input reads as it did. -/
def shiftersUnsatUptoRow : OpenClaim := { program := "ytddaobhpffpmoaa", sum := "cc4c44cce658e1fcdb57e5a906f9cb60b83dd7856520cf4237ec56cf7f3a0436", func := "probecard/probecardlaw32.ShiftersUnsat", spec := "shiftersUnsat", unfollowed := true, recurses := true, apart := false, narrowed := true }
def ShiftersUnsatUptoSaid : Prop := shiftersUnsatUptoRow.holds Try.pinned (OpenSpec.upto shiftersUnsatSpec)

/-- 'probecardlaw32.ShiftersExpands', WHERE WHAT IT READS IS OF BULK AT MOST 1048576: true; the input reads as it did. -/
def shiftersExpandsUptoRow : OpenClaim := { program := "ytddaobhpffpmoaa", sum := "cc4c44cce658e1fcdb57e5a906f9cb60b83dd7856520cf4237ec56cf7f3a0436", func := "probecard/probecardlaw32.ShiftersExpands", spec := "shiftersExpands", unfollowed := true, recurses := true, apart := false, narrowed := true }
def ShiftersExpandsUptoSaid : Prop := shiftersExpandsUptoRow.holds Try.pinned (OpenSpec.upto shiftersExpandsSpec)

/-- 'probecardlaw32.ShiftersErrors', WHERE WHAT IT READS IS OF BULK AT MOST 1048576: true; the input reads as it did. -/
def shiftersErrorsUptoRow : OpenClaim := { program := "ytddaobhpffpmoaa", sum := "cc4c44cce658e1fcdb57e5a906f9cb60b83dd7856520cf4237ec56cf7f3a0436", func := "probecard/probecardlaw32.ShiftersErrors", spec := "shiftersErrors", unfollowed := true, recurses := true, apart := false, narrowed := true }
def ShiftersErrorsUptoSaid : Prop := shiftersErrorsUptoRow.holds Try.pinned (OpenSpec.upto shiftersErrorsSpec)

/-- 'probecardlaw32.ShiftersSteps', WHERE WHAT IT READS IS OF BULK AT MOST 1048576: true; the input reads as it did. -/
def shiftersStepsUptoRow : OpenClaim := { program := "ytddaobhpffpmoaa", sum := "cc4c44cce658e1fcdb57e5a906f9cb60b83dd7856520cf4237ec56cf7f3a0436", func := "probecard/probecardlaw32.ShiftersSteps", spec := "shiftersSteps", inPlace := ["internal/abi.NoEscape"], unfollowed := true, recurses := true, apart := false, narrowed := true }
def ShiftersStepsUptoSaid : Prop := shiftersStepsUptoRow.holds Try.pinned (OpenSpec.upto shiftersStepsSpec)

/-- 'probecardlaw32.ShiftersKnown', WHERE WHAT IT READS IS OF BULK AT MOST 1048576: true; the input reads as it did. -/
def shiftersKnownUptoRow : OpenClaim := { program := "ytddaobhpffpmoaa", sum := "cc4c44cce658e1fcdb57e5a906f9cb60b83dd7856520cf4237ec56cf7f3a0436", func := "probecard/probecardlaw32.ShiftersKnown", spec := "shiftersKnown", inPlace := ["internal/abi.NoEscape"], unfollowed := true, recurses := true, apart := false, narrowed := true }
def ShiftersKnownUptoSaid : Prop := shiftersKnownUptoRow.holds Try.pinned (OpenSpec.upto shiftersKnownSpec)

end Rows
end Go.Proofs.Ytddaobhpffpmoaa
