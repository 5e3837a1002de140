/-
  The given library's contract of strings.Join at this seat's program (printed by the kit's own tools).
-/
import Derived.Shelf.Strings.OnBuilder
import Derived.Test.YtcnlccpihknehaaDoorProg
set_option linter.all false
namespace Go.Proofs.YtcnlccpihknehaaDoor
open Go.Shelf
def Tryd.lays156_ren : Go.Shelf.Ren := ⟨fun | 156 => 48 | 165 => 78 | 166 => 79 | 169 => 80 | 240 => 96 | 241 => 97 | 276 => 101 | 277 => 102 | n => n,fun | 31 => 37 | 9 => 9 | 3 => 3 | 4 => 4 | 0 => 0 | 20 => 20 | 72 => 140 | 76 => 144 | 70 => 138 | 37 => 22 | 75 => 143 | 127 => 163 | 164 => 167 | 5 => 5 | 80 => 102 | n => n,fun | n => n⟩
theorem Tryd.lays156 : Go.Proofs.Lays.n156 Tryd.prog Tryd.lays156_ren := {
 mixed := by kernel_rfl
 f156 := Tryd.func48.trans (congrArg some (by kernel_rfl))
 f165 := Tryd.func78.trans (congrArg some (by kernel_rfl))
 f166 := Tryd.func79.trans (congrArg some (by kernel_rfl))
 f169 := Tryd.func80.trans (congrArg some (by kernel_rfl))
 f240 := Tryd.func96.trans (congrArg some (by kernel_rfl))
 f241 := Tryd.func97.trans (congrArg some (by kernel_rfl))
 f276 := Tryd.func101.trans (congrArg some (by kernel_rfl))
 f277 := Tryd.func102.trans (congrArg some (by kernel_rfl))
 t0 := Tryd.underlying0
 a0 := Tryd.isAgg0
 z0 := Tryd.sizeOf0
 v0 := Tryd.zeroValue0
 t3 := Tryd.underlying3
 a3 := Tryd.isAgg3
 z3 := Tryd.sizeOf3
 v3 := Tryd.zeroValue3
 t4 := Tryd.underlying4
 a4 := Tryd.isAgg4
 z4 := Tryd.sizeOf4
 v4 := Tryd.zeroValue4
 t9 := Tryd.underlying9
 a9 := Tryd.isAgg9
 z9 := Tryd.sizeOf9
 v9 := Tryd.zeroValue9
 t20 := Tryd.underlying20
 a20 := Tryd.isAgg20
 z20 := Tryd.sizeOf20
 v20 := Tryd.zeroValue20
 t31 := Tryd.underlying37
 a31 := Tryd.isAgg37
 z31 := Tryd.sizeOf37
 v31 := Tryd.zeroValue37
 t37 := Tryd.underlying22
 a37 := Tryd.isAgg22
 z37 := Tryd.sizeOf22
 v37 := Tryd.zeroValue22
 t70 := Tryd.underlying138
 a70 := Tryd.isAgg138
 z70 := Tryd.sizeOf138
 v70 := Tryd.zeroValue138
 t72 := Tryd.underlying140
 a72 := Tryd.isAgg140
 z72 := Tryd.sizeOf140
 v72 := Tryd.zeroValue140
 t75 := Tryd.underlying143
 a75 := Tryd.isAgg143
 z75 := Tryd.sizeOf143
 v75 := Tryd.zeroValue143
 t76 := Tryd.underlying144
 a76 := Tryd.isAgg144
 z76 := Tryd.sizeOf144
 v76 := Tryd.zeroValue144
 t127 := Tryd.underlying163
 a127 := Tryd.isAgg163
 z127 := Tryd.sizeOf163
 v127 := Tryd.zeroValue163
 t164 := Tryd.underlying167
 a164 := Tryd.isAgg167
 z164 := Tryd.sizeOf167
 v164 := Tryd.zeroValue167 }
theorem Tryd.Builder_Extra_156 : Builder.Extra Tryd.prog Tryd.lays156_ren := {
 sizeBuilder := by kernel_rfl
 liesBuilder := by kernel_rfl
 t5 := Tryd.underlying5
 a5 := Tryd.isAgg5
 z5 := Tryd.sizeOf5
 v5 := Tryd.zeroValue5
 infoByte := by kernel_rfl
 cellsByte := by kernel_rfl
 sizeByte := by kernel_rfl
 neB5 := by decide }
open Go.RowKit in
theorem Tryd.strings_Join_none (a : Option Addr) (c : Nat) (sep : ByteArray) (w : World) :
   Calls Tryd.prog 48 #[.slice a 0 c,.string sep] w fun e w' => e = .returned (.string ⟨#[]⟩) ∧ w' = w := Any.strings_Join_none Tryd.lays156 Tryd.Builder_Extra_156 a c sep w
open Go.RowKit in
theorem Tryd.strings_Join (bk o c : Nat) (xs : List ByteArray) (sep : ByteArray) (w : World) (hcells : ∀ (j : Nat) x,xs[j]? = some x → w.cell? ⟨bk,o + j,none⟩ = some (.string x)) (hbk : bk < w.heap.size) (hN : xs.length ≤ 140737488355328) (hcap : xs.length ≤ c) (hlen : (Lib.join (xs.map (·.data.toList)) sep.data.toList).length ≤ 140737488355328) :
   Calls Tryd.prog 48 #[.slice (some ⟨bk,o,none⟩) xs.length c,.string sep] w fun e w' => e = .returned (.string ⟨(Lib.join (xs.map (·.data.toList)) sep.data.toList).toArray⟩) ∧ Below w.heap.size w w' := Any.strings_Join Tryd.lays156 Tryd.Builder_Extra_156 bk o c xs sep w hcells hbk hN hcap hlen
end Go.Proofs.YtcnlccpihknehaaDoor
