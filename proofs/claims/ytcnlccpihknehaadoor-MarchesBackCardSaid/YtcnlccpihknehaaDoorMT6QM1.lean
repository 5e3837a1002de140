/-
  The types of this seat's program, and its package variable, as the general library reads them.
-/
import Derived.Test.YtcnlccpihknehaaDoorLMc
import Derived.Test.YtcnlccpihknehaaDoorRows
set_option linter.all false
namespace Go.Proofs.YtcnlccpihknehaaDoor
open Go.Abs
def tabV : List (List UInt8 × List UInt8) := [([77,65,84,83,43],[97,110,121,40,119,48,41,59,32,117,112,40,114,48,44,119,49,41,59,32,100,111,119,110,40,114,49,44,119,48,41]),([77,65,84,83,43,43],[97,110,121,40,119,48,41,59,32,117,112,40,114,48,44,119,49,41,59,32,100,111,119,110,40,114,49,44,119,48,44,114,48,41]),([77,97,114,99,104,32,88],[97,110,121,40,119,48,41,59,32,117,112,40,114,48,44,119,49,41,59,32,100,111,119,110,40,114,49,44,119,48,41,59,32,97,110,121,40,114,48,41]),([77,97,114,99,104,32,89],[97,110,121,40,119,48,41,59,32,117,112,40,114,48,44,119,49,44,114,49,41,59,32,100,111,119,110,40,114,49,44,119,48,44,114,48,41,59,32,97,110,121,40,114,48,41]),([77,97,114,99,104,32,67,45],[97,110,121,40,119,48,41,59,32,117,112,40,114,48,44,119,49,41,59,32,117,112,40,114,49,44,119,48,41,59,32,100,111,119,110,40,114,48,44,119,49,41,59,32,100,111,119,110,40,114,49,44,119,48,41,59,32,97,110,121,40,114,48,41]),([77,97,114,99,104,32,65],[97,110,121,40,119,48,41,59,32,117,112,40,114,48,44,119,49,44,119,48,44,119,49,41,59,32,117,112,40,114,49,44,119,48,44,119,49,41,59,32,100,111,119,110,40,114,49,44,119,48,44,119,49,44,119,48,41,59,32,100,111,119,110,40,114,48,44,119,49,44,119,48,41]),([77,97,114,99,104,32,66],[97,110,121,40,119,48,41,59,32,117,112,40,114,48,44,119,49,44,114,49,44,119,48,44,114,48,44,119,49,41,59,32,117,112,40,114,49,44,119,48,44,119,49,41,59,32,100,111,119,110,40,114,49,44,119,48,44,119,49,44,119,48,41,59,32,100,111,119,110,40,114,48,44,119,49,44,119,48,41])]
instance glI : Gl := ⟨fun g => match g with
 | 0 => some ⟨(.pair (.pair .str .str) (.pair (.pair .str .str) (.pair (.pair .str .str) (.pair (.pair .str .str) (.pair (.pair .str .str) (.pair (.pair .str .str) (.pair .str .str))))))),((([77,65,84,83,43],[97,110,121,40,119,48,41,59,32,117,112,40,114,48,44,119,49,41,59,32,100,111,119,110,40,114,49,44,119,48,41]),(([77,65,84,83,43,43],[97,110,121,40,119,48,41,59,32,117,112,40,114,48,44,119,49,41,59,32,100,111,119,110,40,114,49,44,119,48,44,114,48,41]),(([77,97,114,99,104,32,88],[97,110,121,40,119,48,41,59,32,117,112,40,114,48,44,119,49,41,59,32,100,111,119,110,40,114,49,44,119,48,41,59,32,97,110,121,40,114,48,41]),(([77,97,114,99,104,32,89],[97,110,121,40,119,48,41,59,32,117,112,40,114,48,44,119,49,44,114,49,41,59,32,100,111,119,110,40,114,49,44,119,48,44,114,48,41,59,32,97,110,121,40,114,48,41]),(([77,97,114,99,104,32,67,45],[97,110,121,40,119,48,41,59,32,117,112,40,114,48,44,119,49,41,59,32,117,112,40,114,49,44,119,48,41,59,32,100,111,119,110,40,114,48,44,119,49,41,59,32,100,111,119,110,40,114,49,44,119,48,41,59,32,97,110,121,40,114,48,41]),(([77,97,114,99,104,32,65],[97,110,121,40,119,48,41,59,32,117,112,40,114,48,44,119,49,44,119,48,44,119,49,41,59,32,117,112,40,114,49,44,119,48,44,119,49,41,59,32,100,111,119,110,40,114,49,44,119,48,44,119,49,44,119,48,41,59,32,100,111,119,110,40,114,48,44,119,49,44,119,48,41]),([77,97,114,99,104,32,66],[97,110,121,40,119,48,41,59,32,117,112,40,114,48,44,119,49,44,114,49,44,119,48,44,114,48,44,119,49,41,59,32,117,112,40,114,49,44,119,48,44,119,49,41,59,32,100,111,119,110,40,114,49,44,119,48,44,119,49,44,119,48,41,59,32,100,111,119,110,40,114,48,44,119,49,44,119,48,41]))))))) : Ly.ty (.pair (.pair .str .str) (.pair (.pair .str .str) (.pair (.pair .str .str) (.pair (.pair .str .str) (.pair (.pair .str .str) (.pair (.pair .str .str) (.pair .str .str))))))))⟩
 | _ => none⟩
theorem Tryd.ti3 : tinf Tryd.prog 3 = some ⟨.int .i64,1,8,some [.int .i64 0],none⟩ := by kernel_rfl
theorem Tryd.ti4 : tinf Tryd.prog 4 = some ⟨.bool,1,1,some [.bool false],none⟩ := by kernel_rfl
theorem Tryd.ti5 : tinf Tryd.prog 5 = some ⟨.int .u8,1,1,some [.int .u8 0],none⟩ := by kernel_rfl
theorem Tryd.ti9 : tinf Tryd.prog 9 = some ⟨.string,1,16,some [.str []],none⟩ := by kernel_rfl
theorem Tryd.ti22 : tinf Tryd.prog 22 = some ⟨.slice 5,1,24,some [.imm [] 0 (some 0)],none⟩ := by kernel_rfl
theorem Tryd.ti23 : tinf Tryd.prog 23 = some ⟨.slice 22,1,24,some [.imm [] 0 (some 0)],none⟩ := by kernel_rfl
theorem Tryd.ti25 : tinf Tryd.prog 25 = some ⟨.struct [(0,22),(1,23)],2,48,some [.imm [] 0 (some 0),.imm [] 0 (some 0)],none⟩ := by kernel_rfl
theorem Tryd.ti29 : tinf Tryd.prog 29 = some ⟨.slice 46,1,24,some [.imm [] 0 (some 0)],none⟩ := by kernel_rfl
theorem Tryd.ti31 : tinf Tryd.prog 31 = some ⟨.int .i64,1,8,some [.int .i64 0],none⟩ := by kernel_rfl
theorem Tryd.ti33 : tinf Tryd.prog 33 = some ⟨.slice 94,1,24,some [.imm [] 0 (some 0)],none⟩ := by kernel_rfl
theorem Tryd.ti34 : tinf Tryd.prog 34 = some ⟨.other,1,0,none,none⟩ := by kernel_rfl
theorem Tryd.ti37 : tinf Tryd.prog 37 = some ⟨.slice 9,1,24,some [.imm [] 0 (some 0)],none⟩ := by kernel_rfl
theorem Tryd.ti39 : tinf Tryd.prog 39 = some ⟨.slice 3,1,24,some [.imm [] 0 (some 0)],none⟩ := by kernel_rfl
theorem Tryd.ti40 : tinf Tryd.prog 40 = some ⟨.other,1,0,none,none⟩ := by kernel_rfl
theorem Tryd.ti43 : tinf Tryd.prog 43 = some ⟨.int .u8,1,1,some [.int .u8 0],none⟩ := by kernel_rfl
theorem Tryd.ti44 : tinf Tryd.prog 44 = some ⟨.slice 49,1,24,some [.imm [] 0 (some 0)],none⟩ := by kernel_rfl
theorem Tryd.ti46 : tinf Tryd.prog 46 = some ⟨.struct [(0,43),(1,44)],2,32,some [.int .u8 0,.imm [] 0 (some 0)],none⟩ := by kernel_rfl
theorem Tryd.ti47 : tinf Tryd.prog 47 = some ⟨.int .u8,1,1,some [.int .u8 0],none⟩ := by kernel_rfl
theorem Tryd.ti49 : tinf Tryd.prog 49 = some ⟨.struct [(0,4),(1,47)],2,2,some [.bool false,.int .u8 0],some [.bool,.int]⟩ := by kernel_rfl
theorem Tryd.ti54 : tinf Tryd.prog 54 = some ⟨.other,1,0,none,none⟩ := by kernel_rfl
theorem Tryd.ti58 : tinf Tryd.prog 58 = some ⟨.int .u16,1,2,some [.int .u16 0],none⟩ := by kernel_rfl
theorem Tryd.ti60 : tinf Tryd.prog 60 = some ⟨.struct [(0,5),(1,58),(2,5),(3,5),(4,5)],5,8,some [.int .u8 0,.int .u16 0,.int .u8 0,.int .u8 0,.int .u8 0],some [.int,.int,.int,.int,.int]⟩ := by kernel_rfl
theorem Tryd.ti61 : tinf Tryd.prog 61 = some ⟨.int .u8,1,1,some [.int .u8 0],none⟩ := by kernel_rfl
theorem Tryd.ti63 : tinf Tryd.prog 63 = some ⟨.struct [(0,61),(1,3),(2,3)],3,24,some [.int .u8 0,.int .i64 0,.int .i64 0],some [.int,.int,.int]⟩ := by kernel_rfl
theorem Tryd.ti64 : tinf Tryd.prog 64 = some ⟨.other,1,0,none,none⟩ := by kernel_rfl
theorem Tryd.ti66 : tinf Tryd.prog 66 = some ⟨.slice 73,1,24,some [.imm [] 0 (some 0)],none⟩ := by kernel_rfl
theorem Tryd.ti67 : tinf Tryd.prog 67 = some ⟨.other,1,0,none,none⟩ := by kernel_rfl
theorem Tryd.ti69 : tinf Tryd.prog 69 = some ⟨.slice 47,1,24,some [.imm [] 0 (some 0)],none⟩ := by kernel_rfl
theorem Tryd.ti73 : tinf Tryd.prog 73 = some ⟨.struct [(0,3),(1,3),(2,47),(3,47)],4,24,some [.int .i64 0,.int .i64 0,.int .u8 0,.int .u8 0],some [.int,.int,.int,.int]⟩ := by kernel_rfl
theorem Tryd.ti75 : tinf Tryd.prog 75 = some ⟨.slice 25,1,24,some [.imm [] 0 (some 0)],none⟩ := by kernel_rfl
theorem Tryd.ti76 : tinf Tryd.prog 76 = some ⟨.slice 29,1,24,some [.imm [] 0 (some 0)],none⟩ := by kernel_rfl
theorem Tryd.ti77 : tinf Tryd.prog 77 = some ⟨.slice 61,1,24,some [.imm [] 0 (some 0)],none⟩ := by kernel_rfl
theorem Tryd.ti78 : tinf Tryd.prog 78 = some ⟨.other,1,0,none,none⟩ := by kernel_rfl
theorem Tryd.ti80 : tinf Tryd.prog 80 = some ⟨.other,1,0,none,none⟩ := by kernel_rfl
theorem Tryd.ti85 : tinf Tryd.prog 85 = some ⟨.slice 90,1,24,some [.imm [] 0 (some 0)],none⟩ := by kernel_rfl
theorem Tryd.ti86 : tinf Tryd.prog 86 = some ⟨.other,1,0,none,none⟩ := by kernel_rfl
theorem Tryd.ti88 : tinf Tryd.prog 88 = some ⟨.func,1,8,some [.nilf],none⟩ := by kernel_rfl
theorem Tryd.ti90 : tinf Tryd.prog 90 = some ⟨.struct [(0,61),(1,4),(2,4)],3,3,some [.int .u8 0,.bool false,.bool false],some [.int,.bool,.bool]⟩ := by kernel_rfl
theorem Tryd.ti94 : tinf Tryd.prog 94 = some ⟨.struct [(0,3),(1,3),(2,49)],4,24,some [.int .i64 0,.int .i64 0,.bool false,.int .u8 0],some [.int,.int,.bool,.int]⟩ := by kernel_rfl
theorem Tryd.ti95 : tinf Tryd.prog 95 = some ⟨.func,1,8,some [.nilf],none⟩ := by kernel_rfl
theorem Tryd.ti96 : tinf Tryd.prog 96 = some ⟨.func,1,8,some [.nilf],none⟩ := by kernel_rfl
theorem Tryd.ti99 : tinf Tryd.prog 99 = some ⟨.struct [(0,9),(1,9)],2,32,some [.str [],.str []],some [.str,.str]⟩ := by kernel_rfl
theorem Tryd.ti100 : tinf Tryd.prog 100 = some ⟨.array 7 99,14,224,some [.str [],.str [],.str [],.str [],.str [],.str [],.str [],.str [],.str [],.str [],.str [],.str [],.str [],.str []],none⟩ := by kernel_rfl
theorem Tryd.ti109 : tinf Tryd.prog 109 = some ⟨.ptr 111,1,8,some [.nilp],none⟩ := by kernel_rfl
theorem Tryd.ti111 : tinf Tryd.prog 111 = some ⟨.struct [(0,9),(1,3)],2,24,some [.str [],.int .i64 0],some [.str,.int]⟩ := by kernel_rfl
theorem Tryd.ti112 : tinf Tryd.prog 112 = some ⟨.other,1,0,none,none⟩ := by kernel_rfl
theorem Tryd.ti114 : tinf Tryd.prog 114 = some ⟨.other,1,0,none,none⟩ := by kernel_rfl
theorem Tryd.ti117 : tinf Tryd.prog 117 = some ⟨.func,1,8,some [.nilf],none⟩ := by kernel_rfl
theorem Tryd.ti118 : tinf Tryd.prog 118 = some ⟨.func,1,8,some [.nilf],none⟩ := by kernel_rfl
theorem Tryd.ti119 : tinf Tryd.prog 119 = some ⟨.ptr 151,1,8,some [.nilp],none⟩ := by kernel_rfl
theorem Tryd.ti120 : tinf Tryd.prog 120 = some ⟨.other,1,0,none,none⟩ := by kernel_rfl
theorem Tryd.ti123 : tinf Tryd.prog 123 = some ⟨.other,1,0,none,none⟩ := by kernel_rfl
theorem Tryd.ti125 : tinf Tryd.prog 125 = some ⟨.slice 63,1,24,some [.imm [] 0 (some 0)],none⟩ := by kernel_rfl
theorem Tryd.ti129 : tinf Tryd.prog 129 = some ⟨.func,1,8,some [.nilf],none⟩ := by kernel_rfl
theorem Tryd.ti134 : tinf Tryd.prog 134 = some ⟨.func,1,8,some [.nilf],none⟩ := by kernel_rfl
theorem Tryd.ti136 : tinf Tryd.prog 136 = some ⟨.func,1,8,some [.nilf],none⟩ := by kernel_rfl
theorem Tryd.ti137 : tinf Tryd.prog 137 = some ⟨.func,1,8,some [.nilf],none⟩ := by kernel_rfl
theorem Tryd.ti148 : tinf Tryd.prog 148 = some ⟨.func,1,8,some [.nilf],none⟩ := by kernel_rfl
theorem Tryd.ti151 : tinf Tryd.prog 151 = some ⟨.struct [(0,63),(3,69),(4,4)],5,56,some [.int .u8 0,.int .i64 0,.int .i64 0,.imm [] 0 (some 0),.bool false],none⟩ := by kernel_rfl
theorem Tryd.ti157 : tinf Tryd.prog 157 = some ⟨.func,1,8,some [.nilf],none⟩ := by kernel_rfl
theorem Tryd.ti158 : tinf Tryd.prog 158 = some ⟨.func,1,8,some [.nilf],none⟩ := by kernel_rfl
theorem Tryd.ti160 : tinf Tryd.prog 160 = some ⟨.slice 4,1,24,some [.imm [] 0 (some 0)],none⟩ := by kernel_rfl
theorem Tryd.ti166 : tinf Tryd.prog 166 = some ⟨.func,1,8,some [.nilf],none⟩ := by kernel_rfl
end Go.Proofs.YtcnlccpihknehaaDoor
