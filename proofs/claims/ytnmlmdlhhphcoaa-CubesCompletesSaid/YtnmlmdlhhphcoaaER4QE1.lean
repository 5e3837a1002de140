/-
  The types of this seat's program, as the general library reads them.
-/
import Derived.Test.YtnmlmdlhhphcoaaER4QMc
import Derived.Test.YtnmlmdlhhphcoaaRows
set_option linter.all false
namespace Go.Proofs.Ytnmlmdlhhphcoaa
open Go.Abs
instance glI : Gl := ⟨fun _ => none⟩
theorem Try.ti2 : tinf Try.prog 2 = some ⟨.int .i64,1,8,some [.int .i64 0],none⟩ := by kernel_rfl
theorem Try.ti3 : tinf Try.prog 3 = some ⟨.int .i64,1,8,some [.int .i64 0],none⟩ := by kernel_rfl
theorem Try.ti4 : tinf Try.prog 4 = some ⟨.bool,1,1,some [.bool false],none⟩ := by kernel_rfl
theorem Try.ti5 : tinf Try.prog 5 = some ⟨.int .u8,1,1,some [.int .u8 0],none⟩ := by kernel_rfl
theorem Try.ti6 : tinf Try.prog 6 = some ⟨.int .u8,1,1,some [.int .u8 0],none⟩ := by kernel_rfl
theorem Try.ti7 : tinf Try.prog 7 = some ⟨.struct [(0,2),(1,3),(2,4),(3,6)],4,24,some [.int .i64 0,.int .i64 0,.bool false,.int .u8 0],some [.int,.int,.bool,.int]⟩ := by kernel_rfl
theorem Try.ti8 : tinf Try.prog 8 = some ⟨.struct [(0,2),(1,3),(2,4),(3,6)],4,24,some [.int .i64 0,.int .i64 0,.bool false,.int .u8 0],some [.int,.int,.bool,.int]⟩ := by kernel_rfl
theorem Try.ti9 : tinf Try.prog 9 = some ⟨.string,1,16,some [.str []],none⟩ := by kernel_rfl
theorem Try.ti10 : tinf Try.prog 10 = some ⟨.string,1,16,some [.str []],none⟩ := by kernel_rfl
theorem Try.ti11 : tinf Try.prog 11 = some ⟨.string,1,16,some [.str []],none⟩ := by kernel_rfl
theorem Try.ti12 : tinf Try.prog 12 = some ⟨.int .u64,1,8,some [.int .u64 0],none⟩ := by kernel_rfl
theorem Try.ti13 : tinf Try.prog 13 = some ⟨.struct [(0,9),(1,12)],2,24,some [.str [],.int .u64 0],none⟩ := by kernel_rfl
theorem Try.ti14 : tinf Try.prog 14 = some ⟨.struct [(0,9),(1,12)],2,24,some [.str [],.int .u64 0],none⟩ := by kernel_rfl
theorem Try.ti15 : tinf Try.prog 15 = some ⟨.ptr 106,1,8,some [.nilp],none⟩ := by kernel_rfl
theorem Try.ti16 : tinf Try.prog 16 = some ⟨.ptr 109,1,8,some [.nilp],none⟩ := by kernel_rfl
theorem Try.ti17 : tinf Try.prog 17 = some ⟨.ptr 117,1,8,some [.nilp],none⟩ := by kernel_rfl
theorem Try.ti18 : tinf Try.prog 18 = some ⟨.struct [(0,17)],1,8,some [.nilp],none⟩ := by kernel_rfl
theorem Try.ti19 : tinf Try.prog 19 = some ⟨.struct [(0,17)],1,8,some [.nilp],none⟩ := by kernel_rfl
theorem Try.ti20 : tinf Try.prog 20 = some ⟨.other,1,16,some [.junk],none⟩ := by kernel_rfl
theorem Try.ti21 : tinf Try.prog 21 = some ⟨.int .i32,1,4,some [.int .i32 0],none⟩ := by kernel_rfl
theorem Try.ti22 : tinf Try.prog 22 = some ⟨.slice 5,1,24,some [.imm [] 0 (some 0)],none⟩ := by kernel_rfl
theorem Try.ti23 : tinf Try.prog 23 = some ⟨.struct [(0,22),(1,22)],2,48,some [.imm [] 0 (some 0),.imm [] 0 (some 0)],none⟩ := by kernel_rfl
theorem Try.ti24 : tinf Try.prog 24 = some ⟨.struct [(0,22),(1,22)],2,48,some [.imm [] 0 (some 0),.imm [] 0 (some 0)],none⟩ := by kernel_rfl
theorem Try.ti25 : tinf Try.prog 25 = some ⟨.func,1,8,some [.nilf],none⟩ := by kernel_rfl
theorem Try.ti26 : tinf Try.prog 26 = some ⟨.func,1,8,some [.nilf],none⟩ := by kernel_rfl
theorem Try.ti27 : tinf Try.prog 27 = some ⟨.slice 42,1,24,some [.imm [] 0 (some 0)],none⟩ := by kernel_rfl
theorem Try.ti28 : tinf Try.prog 28 = some ⟨.struct [(0,27),(1,27)],2,48,some [.imm [] 0 (some 0),.imm [] 0 (some 0)],none⟩ := by kernel_rfl
theorem Try.ti29 : tinf Try.prog 29 = some ⟨.struct [(0,27),(1,27)],2,48,some [.imm [] 0 (some 0),.imm [] 0 (some 0)],none⟩ := by kernel_rfl
theorem Try.ti30 : tinf Try.prog 30 = some ⟨.func,1,8,some [.nilf],none⟩ := by kernel_rfl
theorem Try.ti31 : tinf Try.prog 31 = some ⟨.func,1,8,some [.nilf],none⟩ := by kernel_rfl
theorem Try.ti32 : tinf Try.prog 32 = some ⟨.int .i64,1,8,some [.int .i64 0],none⟩ := by kernel_rfl
theorem Try.ti33 : tinf Try.prog 33 = some ⟨.other,1,0,none,none⟩ := by kernel_rfl
theorem Try.ti34 : tinf Try.prog 34 = some ⟨.func,1,8,some [.nilf],none⟩ := by kernel_rfl
theorem Try.ti35 : tinf Try.prog 35 = some ⟨.func,1,8,some [.nilf],none⟩ := by kernel_rfl
theorem Try.ti36 : tinf Try.prog 36 = some ⟨.func,1,8,some [.nilf],none⟩ := by kernel_rfl
theorem Try.ti37 : tinf Try.prog 37 = some ⟨.func,1,8,some [.nilf],none⟩ := by kernel_rfl
theorem Try.ti38 : tinf Try.prog 38 = some ⟨.func,1,8,some [.nilf],none⟩ := by kernel_rfl
theorem Try.ti39 : tinf Try.prog 39 = some ⟨.func,1,8,some [.nilf],none⟩ := by kernel_rfl
theorem Try.ti40 : tinf Try.prog 40 = some ⟨.func,1,8,some [.nilf],none⟩ := by kernel_rfl
theorem Try.ti41 : tinf Try.prog 41 = some ⟨.int .u8,1,1,some [.int .u8 0],none⟩ := by kernel_rfl
theorem Try.ti42 : tinf Try.prog 42 = some ⟨.int .u8,1,1,some [.int .u8 0],none⟩ := by kernel_rfl
theorem Try.ti43 : tinf Try.prog 43 = some ⟨.func,1,8,some [.nilf],none⟩ := by kernel_rfl
theorem Try.ti44 : tinf Try.prog 44 = some ⟨.func,1,8,some [.nilf],none⟩ := by kernel_rfl
theorem Try.ti45 : tinf Try.prog 45 = some ⟨.func,1,8,some [.nilf],none⟩ := by kernel_rfl
theorem Try.ti46 : tinf Try.prog 46 = some ⟨.slice 3,1,24,some [.imm [] 0 (some 0)],none⟩ := by kernel_rfl
theorem Try.ti47 : tinf Try.prog 47 = some ⟨.func,1,8,some [.nilf],none⟩ := by kernel_rfl
theorem Try.ti48 : tinf Try.prog 48 = some ⟨.func,1,8,some [.nilf],none⟩ := by kernel_rfl
theorem Try.ti49 : tinf Try.prog 49 = some ⟨.func,1,8,some [.nilf],none⟩ := by kernel_rfl
theorem Try.ti50 : tinf Try.prog 50 = some ⟨.func,1,8,some [.nilf],none⟩ := by kernel_rfl
theorem Try.ti51 : tinf Try.prog 51 = some ⟨.func,1,8,some [.nilf],none⟩ := by kernel_rfl
theorem Try.ti52 : tinf Try.prog 52 = some ⟨.func,1,8,some [.nilf],none⟩ := by kernel_rfl
theorem Try.ti53 : tinf Try.prog 53 = some ⟨.func,1,8,some [.nilf],none⟩ := by kernel_rfl
theorem Try.ti54 : tinf Try.prog 54 = some ⟨.array 2 22,2,48,some [.imm [] 0 (some 0),.imm [] 0 (some 0)],none⟩ := by kernel_rfl
theorem Try.ti55 : tinf Try.prog 55 = some ⟨.struct [(0,54),(2,54)],4,96,some [.imm [] 0 (some 0),.imm [] 0 (some 0),.imm [] 0 (some 0),.imm [] 0 (some 0)],none⟩ := by kernel_rfl
theorem Try.ti56 : tinf Try.prog 56 = some ⟨.struct [(0,54),(2,54)],4,96,some [.imm [] 0 (some 0),.imm [] 0 (some 0),.imm [] 0 (some 0),.imm [] 0 (some 0)],none⟩ := by kernel_rfl
theorem Try.ti57 : tinf Try.prog 57 = some ⟨.func,1,8,some [.nilf],none⟩ := by kernel_rfl
theorem Try.ti58 : tinf Try.prog 58 = some ⟨.func,1,8,some [.nilf],none⟩ := by kernel_rfl
theorem Try.ti59 : tinf Try.prog 59 = some ⟨.slice 29,1,24,some [.imm [] 0 (some 0)],none⟩ := by kernel_rfl
theorem Try.ti60 : tinf Try.prog 60 = some ⟨.other,1,0,none,none⟩ := by kernel_rfl
theorem Try.ti61 : tinf Try.prog 61 = some ⟨.func,1,8,some [.nilf],none⟩ := by kernel_rfl
theorem Try.ti62 : tinf Try.prog 62 = some ⟨.func,1,8,some [.nilf],none⟩ := by kernel_rfl
theorem Try.ti63 : tinf Try.prog 63 = some ⟨.array 3 24,6,144,some [.imm [] 0 (some 0),.imm [] 0 (some 0),.imm [] 0 (some 0),.imm [] 0 (some 0),.imm [] 0 (some 0),.imm [] 0 (some 0)],none⟩ := by kernel_rfl
theorem Try.ti64 : tinf Try.prog 64 = some ⟨.slice 9,1,24,some [.imm [] 0 (some 0)],none⟩ := by kernel_rfl
theorem Try.ti65 : tinf Try.prog 65 = some ⟨.slice 24,1,24,some [.imm [] 0 (some 0)],none⟩ := by kernel_rfl
theorem Try.ti66 : tinf Try.prog 66 = some ⟨.func,1,8,some [.nilf],none⟩ := by kernel_rfl
theorem Try.ti67 : tinf Try.prog 67 = some ⟨.func,1,8,some [.nilf],none⟩ := by kernel_rfl
theorem Try.ti68 : tinf Try.prog 68 = some ⟨.func,1,8,some [.nilf],none⟩ := by kernel_rfl
theorem Try.ti69 : tinf Try.prog 69 = some ⟨.func,1,8,some [.nilf],none⟩ := by kernel_rfl
theorem Try.ti70 : tinf Try.prog 70 = some ⟨.func,1,8,some [.nilf],none⟩ := by kernel_rfl
theorem Try.ti71 : tinf Try.prog 71 = some ⟨.func,1,8,some [.nilf],none⟩ := by kernel_rfl
theorem Try.ti72 : tinf Try.prog 72 = some ⟨.func,1,8,some [.nilf],none⟩ := by kernel_rfl
theorem Try.ti73 : tinf Try.prog 73 = some ⟨.ptr 42,1,8,some [.nilp],none⟩ := by kernel_rfl
theorem Try.ti74 : tinf Try.prog 74 = some ⟨.func,1,8,some [.nilf],none⟩ := by kernel_rfl
theorem Try.ti75 : tinf Try.prog 75 = some ⟨.func,1,8,some [.nilf],none⟩ := by kernel_rfl
theorem Try.ti76 : tinf Try.prog 76 = some ⟨.func,1,8,some [.nilf],none⟩ := by kernel_rfl
theorem Try.ti77 : tinf Try.prog 77 = some ⟨.func,1,8,some [.nilf],none⟩ := by kernel_rfl
theorem Try.ti78 : tinf Try.prog 78 = some ⟨.func,1,8,some [.nilf],none⟩ := by kernel_rfl
theorem Try.ti79 : tinf Try.prog 79 = some ⟨.func,1,8,some [.nilf],none⟩ := by kernel_rfl
theorem Try.ti80 : tinf Try.prog 80 = some ⟨.func,1,8,some [.nilf],none⟩ := by kernel_rfl
theorem Try.ti81 : tinf Try.prog 81 = some ⟨.ptr 83,1,8,some [.nilp],none⟩ := by kernel_rfl
theorem Try.ti82 : tinf Try.prog 82 = some ⟨.struct [(0,81),(1,22)],2,32,some [.nilp,.imm [] 0 (some 0)],none⟩ := by kernel_rfl
theorem Try.ti83 : tinf Try.prog 83 = some ⟨.struct [(0,81),(1,22)],2,32,some [.nilp,.imm [] 0 (some 0)],none⟩ := by kernel_rfl
theorem Try.ti84 : tinf Try.prog 84 = some ⟨.other,1,16,some [.junk],none⟩ := by kernel_rfl
theorem Try.ti85 : tinf Try.prog 85 = some ⟨.other,1,16,some [.junk],none⟩ := by kernel_rfl
theorem Try.ti86 : tinf Try.prog 86 = some ⟨.func,1,8,some [.nilf],none⟩ := by kernel_rfl
theorem Try.ti87 : tinf Try.prog 87 = some ⟨.func,1,8,some [.nilf],none⟩ := by kernel_rfl
theorem Try.ti88 : tinf Try.prog 88 = some ⟨.other,1,0,none,none⟩ := by kernel_rfl
theorem Try.ti89 : tinf Try.prog 89 = some ⟨.func,1,8,some [.nilf],none⟩ := by kernel_rfl
theorem Try.ti90 : tinf Try.prog 90 = some ⟨.func,1,8,some [.nilf],none⟩ := by kernel_rfl
theorem Try.ti91 : tinf Try.prog 91 = some ⟨.func,1,8,some [.nilf],none⟩ := by kernel_rfl
theorem Try.ti92 : tinf Try.prog 92 = some ⟨.func,1,8,some [.nilf],none⟩ := by kernel_rfl
theorem Try.ti93 : tinf Try.prog 93 = some ⟨.func,1,8,some [.nilf],none⟩ := by kernel_rfl
theorem Try.ti94 : tinf Try.prog 94 = some ⟨.ptr 5,1,8,some [.nilp],none⟩ := by kernel_rfl
theorem Try.ti95 : tinf Try.prog 95 = some ⟨.slice 27,1,24,some [.imm [] 0 (some 0)],none⟩ := by kernel_rfl
theorem Try.ti96 : tinf Try.prog 96 = some ⟨.func,1,8,some [.nilf],none⟩ := by kernel_rfl
theorem Try.ti97 : tinf Try.prog 97 = some ⟨.other,1,8,some [.nilp],none⟩ := by kernel_rfl
theorem Try.ti98 : tinf Try.prog 98 = some ⟨.func,1,8,some [.nilf],none⟩ := by kernel_rfl
theorem Try.ti99 : tinf Try.prog 99 = some ⟨.func,1,8,some [.nilf],none⟩ := by kernel_rfl
theorem Try.ti100 : tinf Try.prog 100 = some ⟨.func,1,8,some [.nilf],none⟩ := by kernel_rfl
theorem Try.ti101 : tinf Try.prog 101 = some ⟨.int .u64,1,8,some [.int .u64 0],none⟩ := by kernel_rfl
theorem Try.ti102 : tinf Try.prog 102 = some ⟨.int .u32,1,4,some [.int .u32 0],none⟩ := by kernel_rfl
theorem Try.ti103 : tinf Try.prog 103 = some ⟨.other,1,0,none,none⟩ := by kernel_rfl
theorem Try.ti104 : tinf Try.prog 104 = some ⟨.func,1,8,some [.nilf],none⟩ := by kernel_rfl
end Go.Proofs.Ytnmlmdlhhphcoaa
