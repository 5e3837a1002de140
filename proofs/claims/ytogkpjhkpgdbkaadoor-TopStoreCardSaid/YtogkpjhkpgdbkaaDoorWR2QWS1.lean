/-
  The types of this seat's program, and its package variable, as the general library reads them.
-/
import Derived.Test.YtogkpjhkpgdbkaaDoorWR2QMc
import Derived.Test.YtogkpjhkpgdbkaaDoorRows
set_option linter.all false
namespace Go.Proofs.YtogkpjhkpgdbkaaDoor
open Go.Abs
instance glI : Gl := { dat := fun g => match g with
 | 0 => some ⟨(.pair (.pair (.int .i64) (.int .i64)) (.pair (.pair (.int .i64) (.int .i64)) (.pair (.pair (.int .i64) (.int .i64)) (.pair (.pair (.int .i64) (.int .i64)) (.pair (.pair (.int .i64) (.int .i64)) (.pair (.pair (.int .i64) (.int .i64)) (.pair (.pair (.int .i64) (.int .i64)) (.pair (.pair (.int .i64) (.int .i64)) (.pair (.pair (.int .i64) (.int .i64)) (.pair (.pair (.int .i64) (.int .i64)) (.pair (.pair (.int .i64) (.int .i64)) (.pair (.pair (.int .i64) (.int .i64)) (.pair (.pair (.int .i64) (.int .i64)) (.pair (.pair (.int .i64) (.int .i64)) (.pair (.pair (.int .i64) (.int .i64)) (.pair (.int .i64) (.int .i64))))))))))))))))),((0,0),((0,0),((0,0),((1,1),((1,1),((2,16),((2,16),((2,16),((2,16),((2,16),((2,16),((3,3),((2,2),((1,16),((1,1),(0,0))))))))))))))))⟩
 | _ => none }
theorem Tryd.ti2 : tinf Tryd.prog 2 = some ⟨.int .i64,1,8,some [.int .i64 0],none⟩ := by kernel_rfl
theorem Tryd.ti3 : tinf Tryd.prog 3 = some ⟨.int .i64,1,8,some [.int .i64 0],none⟩ := by kernel_rfl
theorem Tryd.ti4 : tinf Tryd.prog 4 = some ⟨.bool,1,1,some [.bool false],none⟩ := by kernel_rfl
theorem Tryd.ti5 : tinf Tryd.prog 5 = some ⟨.int .u8,1,1,some [.int .u8 0],none⟩ := by kernel_rfl
theorem Tryd.ti9 : tinf Tryd.prog 9 = some ⟨.string,1,16,some [.str []],none⟩ := by kernel_rfl
theorem Tryd.ti21 : tinf Tryd.prog 21 = some ⟨.int .i32,1,4,some [.int .i32 0],none⟩ := by kernel_rfl
theorem Tryd.ti22 : tinf Tryd.prog 22 = some ⟨.int .u16,1,2,some [.int .u16 0],none⟩ := by kernel_rfl
theorem Tryd.ti23 : tinf Tryd.prog 23 = some ⟨.slice 33,1,24,some [.imm [] 0 (some 0)],none⟩ := by kernel_rfl
theorem Tryd.ti24 : tinf Tryd.prog 24 = some ⟨.func,1,8,some [.nilf],none⟩ := by kernel_rfl
theorem Tryd.ti25 : tinf Tryd.prog 25 = some ⟨.slice 27,1,24,some [.imm [] 0 (some 0)],none⟩ := by kernel_rfl
theorem Tryd.ti26 : tinf Tryd.prog 26 = some ⟨.slice 25,1,24,some [.imm [] 0 (some 0)],none⟩ := by kernel_rfl
theorem Tryd.ti27 : tinf Tryd.prog 27 = some ⟨.int .u8,1,1,some [.int .u8 0],none⟩ := by kernel_rfl
theorem Tryd.ti28 : tinf Tryd.prog 28 = some ⟨.ptr 53,1,8,some [.nilp],none⟩ := by kernel_rfl
theorem Tryd.ti29 : tinf Tryd.prog 29 = some ⟨.int .i64,1,8,some [.int .i64 0],none⟩ := by kernel_rfl
theorem Tryd.ti30 : tinf Tryd.prog 30 = some ⟨.other,1,0,none,none⟩ := by kernel_rfl
theorem Tryd.ti31 : tinf Tryd.prog 31 = some ⟨.func,1,8,some [.nilf],none⟩ := by kernel_rfl
theorem Tryd.ti32 : tinf Tryd.prog 32 = some ⟨.struct [(0,4),(1,5),(2,5)],3,3,some [.bool false,.int .u8 0,.int .u8 0],some [.bool,.int,.int]⟩ := by kernel_rfl
theorem Tryd.ti33 : tinf Tryd.prog 33 = some ⟨.struct [(0,4),(1,5),(2,5)],3,3,some [.bool false,.int .u8 0,.int .u8 0],some [.bool,.int,.int]⟩ := by kernel_rfl
theorem Tryd.ti34 : tinf Tryd.prog 34 = some ⟨.int .u64,1,8,some [.int .u64 0],none⟩ := by kernel_rfl
theorem Tryd.ti35 : tinf Tryd.prog 35 = some ⟨.func,1,8,some [.nilf],none⟩ := by kernel_rfl
theorem Tryd.ti36 : tinf Tryd.prog 36 = some ⟨.func,1,8,some [.nilf],none⟩ := by kernel_rfl
theorem Tryd.ti37 : tinf Tryd.prog 37 = some ⟨.other,1,0,none,none⟩ := by kernel_rfl
theorem Tryd.ti38 : tinf Tryd.prog 38 = some ⟨.func,1,8,some [.nilf],none⟩ := by kernel_rfl
theorem Tryd.ti39 : tinf Tryd.prog 39 = some ⟨.func,1,8,some [.nilf],none⟩ := by kernel_rfl
theorem Tryd.ti40 : tinf Tryd.prog 40 = some ⟨.func,1,8,some [.nilf],none⟩ := by kernel_rfl
theorem Tryd.ti41 : tinf Tryd.prog 41 = some ⟨.func,1,8,some [.nilf],none⟩ := by kernel_rfl
theorem Tryd.ti42 : tinf Tryd.prog 42 = some ⟨.int .u8,1,1,some [.int .u8 0],none⟩ := by kernel_rfl
theorem Tryd.ti43 : tinf Tryd.prog 43 = some ⟨.func,1,8,some [.nilf],none⟩ := by kernel_rfl
theorem Tryd.ti44 : tinf Tryd.prog 44 = some ⟨.func,1,8,some [.nilf],none⟩ := by kernel_rfl
theorem Tryd.ti45 : tinf Tryd.prog 45 = some ⟨.int .u8,1,1,some [.int .u8 0],none⟩ := by kernel_rfl
theorem Tryd.ti46 : tinf Tryd.prog 46 = some ⟨.slice 51,1,24,some [.imm [] 0 (some 0)],none⟩ := by kernel_rfl
theorem Tryd.ti47 : tinf Tryd.prog 47 = some ⟨.func,1,8,some [.nilf],none⟩ := by kernel_rfl
theorem Tryd.ti48 : tinf Tryd.prog 48 = some ⟨.func,1,8,some [.nilf],none⟩ := by kernel_rfl
theorem Tryd.ti49 : tinf Tryd.prog 49 = some ⟨.func,1,8,some [.nilf],none⟩ := by kernel_rfl
theorem Tryd.ti50 : tinf Tryd.prog 50 = some ⟨.struct [(0,45),(1,3),(2,3)],3,24,some [.int .u8 0,.int .i64 0,.int .i64 0],some [.int,.int,.int]⟩ := by kernel_rfl
theorem Tryd.ti51 : tinf Tryd.prog 51 = some ⟨.struct [(0,45),(1,3),(2,3)],3,24,some [.int .u8 0,.int .i64 0,.int .i64 0],some [.int,.int,.int]⟩ := by kernel_rfl
theorem Tryd.ti52 : tinf Tryd.prog 52 = some ⟨.struct [(0,51),(3,25),(4,4)],5,56,some [.int .u8 0,.int .i64 0,.int .i64 0,.imm [] 0 (some 0),.bool false],none⟩ := by kernel_rfl
theorem Tryd.ti53 : tinf Tryd.prog 53 = some ⟨.struct [(0,51),(3,25),(4,4)],5,56,some [.int .u8 0,.int .i64 0,.int .i64 0,.imm [] 0 (some 0),.bool false],none⟩ := by kernel_rfl
theorem Tryd.ti54 : tinf Tryd.prog 54 = some ⟨.func,1,8,some [.nilf],none⟩ := by kernel_rfl
theorem Tryd.ti55 : tinf Tryd.prog 55 = some ⟨.func,1,8,some [.nilf],none⟩ := by kernel_rfl
theorem Tryd.ti56 : tinf Tryd.prog 56 = some ⟨.slice 3,1,24,some [.imm [] 0 (some 0)],none⟩ := by kernel_rfl
theorem Tryd.ti57 : tinf Tryd.prog 57 = some ⟨.func,1,8,some [.nilf],none⟩ := by kernel_rfl
theorem Tryd.ti58 : tinf Tryd.prog 58 = some ⟨.func,1,8,some [.nilf],none⟩ := by kernel_rfl
theorem Tryd.ti59 : tinf Tryd.prog 59 = some ⟨.func,1,8,some [.nilf],none⟩ := by kernel_rfl
theorem Tryd.ti60 : tinf Tryd.prog 60 = some ⟨.func,1,8,some [.nilf],none⟩ := by kernel_rfl
theorem Tryd.ti61 : tinf Tryd.prog 61 = some ⟨.func,1,8,some [.nilf],none⟩ := by kernel_rfl
theorem Tryd.ti62 : tinf Tryd.prog 62 = some ⟨.func,1,8,some [.nilf],none⟩ := by kernel_rfl
theorem Tryd.ti63 : tinf Tryd.prog 63 = some ⟨.other,1,0,none,none⟩ := by kernel_rfl
theorem Tryd.ti64 : tinf Tryd.prog 64 = some ⟨.func,1,8,some [.nilf],none⟩ := by kernel_rfl
theorem Tryd.ti65 : tinf Tryd.prog 65 = some ⟨.func,1,8,some [.nilf],none⟩ := by kernel_rfl
theorem Tryd.ti66 : tinf Tryd.prog 66 = some ⟨.func,1,8,some [.nilf],none⟩ := by kernel_rfl
theorem Tryd.ti67 : tinf Tryd.prog 67 = some ⟨.func,1,8,some [.nilf],none⟩ := by kernel_rfl
theorem Tryd.ti68 : tinf Tryd.prog 68 = some ⟨.slice 5,1,24,some [.imm [] 0 (some 0)],none⟩ := by kernel_rfl
theorem Tryd.ti69 : tinf Tryd.prog 69 = some ⟨.slice 9,1,24,some [.imm [] 0 (some 0)],none⟩ := by kernel_rfl
theorem Tryd.ti70 : tinf Tryd.prog 70 = some ⟨.func,1,8,some [.nilf],none⟩ := by kernel_rfl
theorem Tryd.ti71 : tinf Tryd.prog 71 = some ⟨.func,1,8,some [.nilf],none⟩ := by kernel_rfl
theorem Tryd.ti72 : tinf Tryd.prog 72 = some ⟨.func,1,8,some [.nilf],none⟩ := by kernel_rfl
theorem Tryd.ti73 : tinf Tryd.prog 73 = some ⟨.func,1,8,some [.nilf],none⟩ := by kernel_rfl
theorem Tryd.ti74 : tinf Tryd.prog 74 = some ⟨.func,1,8,some [.nilf],none⟩ := by kernel_rfl
theorem Tryd.ti75 : tinf Tryd.prog 75 = some ⟨.array 2 3,2,16,some [.int .i64 0,.int .i64 0],none⟩ := by kernel_rfl
theorem Tryd.ti77 : tinf Tryd.prog 77 = some ⟨.func,1,8,some [.nilf],none⟩ := by kernel_rfl
theorem Tryd.ti78 : tinf Tryd.prog 78 = some ⟨.func,1,8,some [.nilf],none⟩ := by kernel_rfl
theorem Tryd.ti79 : tinf Tryd.prog 79 = some ⟨.other,1,0,none,none⟩ := by kernel_rfl
theorem Tryd.ti80 : tinf Tryd.prog 80 = some ⟨.func,1,8,some [.nilf],none⟩ := by kernel_rfl
theorem Tryd.ti81 : tinf Tryd.prog 81 = some ⟨.func,1,8,some [.nilf],none⟩ := by kernel_rfl
theorem Tryd.ti82 : tinf Tryd.prog 82 = some ⟨.int .u32,1,4,some [.int .u32 0],none⟩ := by kernel_rfl
theorem Tryd.ti83 : tinf Tryd.prog 83 = some ⟨.other,1,0,none,none⟩ := by kernel_rfl
theorem Tryd.ti84 : tinf Tryd.prog 84 = some ⟨.func,1,8,some [.nilf],none⟩ := by kernel_rfl
theorem Tryd.ti85 : tinf Tryd.prog 85 = some ⟨.int .u64,1,8,some [.int .u64 0],none⟩ := by kernel_rfl
theorem Tryd.ti86 : tinf Tryd.prog 86 = some ⟨.other,1,0,none,none⟩ := by kernel_rfl
theorem Tryd.ti87 : tinf Tryd.prog 87 = some ⟨.func,1,8,some [.nilf],none⟩ := by kernel_rfl
theorem Tryd.ti88 : tinf Tryd.prog 88 = some ⟨.func,1,8,some [.nilf],none⟩ := by kernel_rfl
theorem Tryd.ti89 : tinf Tryd.prog 89 = some ⟨.func,1,8,some [.nilf],none⟩ := by kernel_rfl
theorem Tryd.ti95 : tinf Tryd.prog 95 = some ⟨.func,1,8,some [.nilf],none⟩ := by kernel_rfl
theorem Tryd.ti76 : tinf Tryd.prog 76 = some ⟨.array 16 75,32,256,some [.int .i64 0,.int .i64 0,.int .i64 0,.int .i64 0,.int .i64 0,.int .i64 0,.int .i64 0,.int .i64 0,.int .i64 0,.int .i64 0,.int .i64 0,.int .i64 0,.int .i64 0,.int .i64 0,.int .i64 0,.int .i64 0,.int .i64 0,.int .i64 0,.int .i64 0,.int .i64 0,.int .i64 0,.int .i64 0,.int .i64 0,.int .i64 0,.int .i64 0,.int .i64 0,.int .i64 0,.int .i64 0,.int .i64 0,.int .i64 0,.int .i64 0,.int .i64 0],none⟩ := by kernel_rfl
end Go.Proofs.YtogkpjhkpgdbkaaDoor
