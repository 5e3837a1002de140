/-
  The types of this seat's program, as the general library reads them.
-/
import Derived.Test.YthchfbanjeiieaaNR8QMc
import Derived.Test.YthchfbanjeiieaaRows
set_option linter.all false
namespace Go.Proofs.Ythchfbanjeiieaa
open Go.Abs
instance glI : Gl := { dat := fun _ => none }
theorem Try.ti2 : tinf Try.prog 2 = some ⟨.int .i64,1,8,some [.int .i64 0],none⟩ := by kernel_rfl
theorem Try.ti3 : tinf Try.prog 3 = some ⟨.int .i64,1,8,some [.int .i64 0],none⟩ := by kernel_rfl
theorem Try.ti4 : tinf Try.prog 4 = some ⟨.bool,1,1,some [.bool false],none⟩ := by kernel_rfl
theorem Try.ti5 : tinf Try.prog 5 = some ⟨.int .u8,1,1,some [.int .u8 0],none⟩ := by kernel_rfl
theorem Try.ti9 : tinf Try.prog 9 = some ⟨.string,1,16,some [.str []],none⟩ := by kernel_rfl
theorem Try.ti22 : tinf Try.prog 22 = some ⟨.int .u16,1,2,some [.int .u16 0],none⟩ := by kernel_rfl
theorem Try.ti23 : tinf Try.prog 23 = some ⟨.struct [(0,5),(1,22),(2,5),(3,5),(4,5)],5,8,some [.int .u8 0,.int .u16 0,.int .u8 0,.int .u8 0,.int .u8 0],some [.int,.int,.int,.int,.int]⟩ := by kernel_rfl
theorem Try.ti24 : tinf Try.prog 24 = some ⟨.struct [(0,5),(1,22),(2,5),(3,5),(4,5)],5,8,some [.int .u8 0,.int .u16 0,.int .u8 0,.int .u8 0,.int .u8 0],some [.int,.int,.int,.int,.int]⟩ := by kernel_rfl
theorem Try.ti25 : tinf Try.prog 25 = some ⟨.slice 43,1,24,some [.imm [] 0 (some 0)],none⟩ := by kernel_rfl
theorem Try.ti26 : tinf Try.prog 26 = some ⟨.func,1,8,some [.nilf],none⟩ := by kernel_rfl
theorem Try.ti27 : tinf Try.prog 27 = some ⟨.ptr 57,1,8,some [.nilp],none⟩ := by kernel_rfl
theorem Try.ti28 : tinf Try.prog 28 = some ⟨.int .i64,1,8,some [.int .i64 0],none⟩ := by kernel_rfl
theorem Try.ti29 : tinf Try.prog 29 = some ⟨.other,1,0,none,none⟩ := by kernel_rfl
theorem Try.ti30 : tinf Try.prog 30 = some ⟨.func,1,8,some [.nilf],none⟩ := by kernel_rfl
theorem Try.ti31 : tinf Try.prog 31 = some ⟨.int .u8,1,1,some [.int .u8 0],none⟩ := by kernel_rfl
theorem Try.ti32 : tinf Try.prog 32 = some ⟨.struct [(0,31),(1,3),(2,3)],3,24,some [.int .u8 0,.int .i64 0,.int .i64 0],some [.int,.int,.int]⟩ := by kernel_rfl
theorem Try.ti33 : tinf Try.prog 33 = some ⟨.struct [(0,31),(1,3),(2,3)],3,24,some [.int .u8 0,.int .i64 0,.int .i64 0],some [.int,.int,.int]⟩ := by kernel_rfl
theorem Try.ti34 : tinf Try.prog 34 = some ⟨.other,1,0,none,none⟩ := by kernel_rfl
theorem Try.ti35 : tinf Try.prog 35 = some ⟨.func,1,8,some [.nilf],none⟩ := by kernel_rfl
theorem Try.ti36 : tinf Try.prog 36 = some ⟨.slice 3,1,24,some [.imm [] 0 (some 0)],none⟩ := by kernel_rfl
theorem Try.ti37 : tinf Try.prog 37 = some ⟨.struct [(0,36),(1,3),(2,3),(3,3)],4,48,some [.imm [] 0 (some 0),.int .i64 0,.int .i64 0,.int .i64 0],none⟩ := by kernel_rfl
theorem Try.ti38 : tinf Try.prog 38 = some ⟨.struct [(0,36),(1,3),(2,3),(3,3)],4,48,some [.imm [] 0 (some 0),.int .i64 0,.int .i64 0,.int .i64 0],none⟩ := by kernel_rfl
theorem Try.ti39 : tinf Try.prog 39 = some ⟨.func,1,8,some [.nilf],none⟩ := by kernel_rfl
theorem Try.ti40 : tinf Try.prog 40 = some ⟨.slice 46,1,24,some [.imm [] 0 (some 0)],none⟩ := by kernel_rfl
theorem Try.ti41 : tinf Try.prog 41 = some ⟨.func,1,8,some [.nilf],none⟩ := by kernel_rfl
theorem Try.ti42 : tinf Try.prog 42 = some ⟨.struct [(0,4),(1,5),(2,5)],3,3,some [.bool false,.int .u8 0,.int .u8 0],some [.bool,.int,.int]⟩ := by kernel_rfl
theorem Try.ti43 : tinf Try.prog 43 = some ⟨.struct [(0,4),(1,5),(2,5)],3,3,some [.bool false,.int .u8 0,.int .u8 0],some [.bool,.int,.int]⟩ := by kernel_rfl
theorem Try.ti44 : tinf Try.prog 44 = some ⟨.func,1,8,some [.nilf],none⟩ := by kernel_rfl
theorem Try.ti45 : tinf Try.prog 45 = some ⟨.func,1,8,some [.nilf],none⟩ := by kernel_rfl
theorem Try.ti46 : tinf Try.prog 46 = some ⟨.int .u8,1,1,some [.int .u8 0],none⟩ := by kernel_rfl
theorem Try.ti47 : tinf Try.prog 47 = some ⟨.func,1,8,some [.nilf],none⟩ := by kernel_rfl
theorem Try.ti48 : tinf Try.prog 48 = some ⟨.other,1,0,none,none⟩ := by kernel_rfl
theorem Try.ti49 : tinf Try.prog 49 = some ⟨.func,1,8,some [.nilf],none⟩ := by kernel_rfl
theorem Try.ti50 : tinf Try.prog 50 = some ⟨.func,1,8,some [.nilf],none⟩ := by kernel_rfl
theorem Try.ti51 : tinf Try.prog 51 = some ⟨.func,1,8,some [.nilf],none⟩ := by kernel_rfl
theorem Try.ti52 : tinf Try.prog 52 = some ⟨.func,1,8,some [.nilf],none⟩ := by kernel_rfl
theorem Try.ti53 : tinf Try.prog 53 = some ⟨.func,1,8,some [.nilf],none⟩ := by kernel_rfl
theorem Try.ti54 : tinf Try.prog 54 = some ⟨.func,1,8,some [.nilf],none⟩ := by kernel_rfl
theorem Try.ti55 : tinf Try.prog 55 = some ⟨.func,1,8,some [.nilf],none⟩ := by kernel_rfl
theorem Try.ti56 : tinf Try.prog 56 = some ⟨.struct [(0,33),(3,40),(4,4)],5,56,some [.int .u8 0,.int .i64 0,.int .i64 0,.imm [] 0 (some 0),.bool false],none⟩ := by kernel_rfl
theorem Try.ti57 : tinf Try.prog 57 = some ⟨.struct [(0,33),(3,40),(4,4)],5,56,some [.int .u8 0,.int .i64 0,.int .i64 0,.imm [] 0 (some 0),.bool false],none⟩ := by kernel_rfl
theorem Try.ti58 : tinf Try.prog 58 = some ⟨.func,1,8,some [.nilf],none⟩ := by kernel_rfl
theorem Try.ti59 : tinf Try.prog 59 = some ⟨.func,1,8,some [.nilf],none⟩ := by kernel_rfl
theorem Try.ti60 : tinf Try.prog 60 = some ⟨.func,1,8,some [.nilf],none⟩ := by kernel_rfl
theorem Try.ti61 : tinf Try.prog 61 = some ⟨.other,1,8,some [.junk],none⟩ := by kernel_rfl
theorem Try.ti62 : tinf Try.prog 62 = some ⟨.func,1,8,some [.nilf],none⟩ := by kernel_rfl
theorem Try.ti63 : tinf Try.prog 63 = some ⟨.func,1,8,some [.nilf],none⟩ := by kernel_rfl
theorem Try.ti64 : tinf Try.prog 64 = some ⟨.func,1,8,some [.nilf],none⟩ := by kernel_rfl
theorem Try.ti65 : tinf Try.prog 65 = some ⟨.func,1,8,some [.nilf],none⟩ := by kernel_rfl
theorem Try.ti66 : tinf Try.prog 66 = some ⟨.func,1,8,some [.nilf],none⟩ := by kernel_rfl
theorem Try.ti67 : tinf Try.prog 67 = some ⟨.func,1,8,some [.nilf],none⟩ := by kernel_rfl
theorem Try.ti68 : tinf Try.prog 68 = some ⟨.func,1,8,some [.nilf],none⟩ := by kernel_rfl
theorem Try.ti69 : tinf Try.prog 69 = some ⟨.func,1,8,some [.nilf],none⟩ := by kernel_rfl
theorem Try.ti70 : tinf Try.prog 70 = some ⟨.func,1,8,some [.nilf],none⟩ := by kernel_rfl
theorem Try.ti71 : tinf Try.prog 71 = some ⟨.slice 33,1,24,some [.imm [] 0 (some 0)],none⟩ := by kernel_rfl
theorem Try.ti72 : tinf Try.prog 72 = some ⟨.func,1,8,some [.nilf],none⟩ := by kernel_rfl
theorem Try.ti73 : tinf Try.prog 73 = some ⟨.slice 9,1,24,some [.imm [] 0 (some 0)],none⟩ := by kernel_rfl
theorem Try.ti74 : tinf Try.prog 74 = some ⟨.func,1,8,some [.nilf],none⟩ := by kernel_rfl
theorem Try.ti75 : tinf Try.prog 75 = some ⟨.func,1,8,some [.nilf],none⟩ := by kernel_rfl
end Go.Proofs.Ythchfbanjeiieaa
