/-
  The table of this seat's types.
-/
import Derived.Test.YtfcbahfdgopgfaaKR5QK4
import Derived.Test.YtfcbahfdgopgfaaKR5QSyI
set_option linter.unusedSimpArgs false
set_option linter.unusedVariables false
namespace Go.Proofs.Ytfcbahfdgopgfaa
open Go.Abs
set_option maxRecDepth 100000
def tb : TB := (.at (.at (.at (.at (.at (.at (.at .no 2 ⟨.int .i64, 1, 8, some [.int .i64 0]⟩ (some (.int .i64))
  .no) 3 ⟨.int .i64, 1, 8, some [.int .i64 0]⟩ (some (.int .i64))
  (.at .no 4 ⟨.bool, 1, 1, some [.bool false]⟩ (some .bool)
  .no)) 5 ⟨.int .u8, 1, 1, some [.int .u8 0]⟩ (some (.int .u8))
  (.at (.at .no 6 ⟨.int .u8, 1, 1, some [.int .u8 0]⟩ (some (.int .u8))
  .no) 7 ⟨.struct [(0, 2), (1, 3), (2, 4), (3, 6)], 4, 24, some [.int .i64 0, .int .i64 0, .bool false, .int .u8 0]⟩ (some (.pair (.int .i64) (.pair (.int .i64) (.pair .bool (.int .u8)))))
  .no)) 8 ⟨.struct [(0, 2), (1, 3), (2, 4), (3, 6)], 4, 24, some [.int .i64 0, .int .i64 0, .bool false, .int .u8 0]⟩ (some (.pair (.int .i64) (.pair (.int .i64) (.pair .bool (.int .u8)))))
  (.at (.at (.at .no 9 ⟨.string, 1, 16, some [.str []]⟩ (some .str)
  .no) 10 ⟨.string, 1, 16, some [.str []]⟩ (some .str)
  (.at .no 11 ⟨.string, 1, 16, some [.str []]⟩ (some .str)
  .no)) 12 ⟨.int .u64, 1, 8, some [.int .u64 0]⟩ (some (.int .u64))
  (.at (.at .no 13 ⟨.struct [(0, 9), (1, 12)], 2, 24, some [.str [], .int .u64 0]⟩ (some (.pair .str (.int .u64)))
  .no) 14 ⟨.struct [(0, 9), (1, 12)], 2, 24, some [.str [], .int .u64 0]⟩ (some (.pair .str (.int .u64)))
  .no))) 15 ⟨.ptr 92, 1, 8, some [.nilp]⟩ none
  (.at (.at (.at (.at .no 16 ⟨.ptr 95, 1, 8, some [.nilp]⟩ none
  .no) 17 ⟨.ptr 104, 1, 8, some [.nilp]⟩ none
  (.at .no 18 ⟨.struct [(0, 17)], 1, 8, some [.nilp]⟩ none
  .no)) 19 ⟨.struct [(0, 17)], 1, 8, some [.nilp]⟩ none
  (.at (.at .no 20 ⟨.other, 1, 16, some [.junk]⟩ none
  .no) 21 ⟨.int .i32, 1, 4, some [.int .i32 0]⟩ (some (.int .i32))
  .no)) 22 ⟨.slice 51, 1, 24, some [.imm [] 0 (some 0)]⟩ (some (.sl (.int .u32)))
  (.at (.at (.at .no 23 ⟨.struct [(0, 5), (1, 22)], 2, 32, some [.int .u8 0, .imm [] 0 (some 0)]⟩ (some (.pair (.int .u8) (.sl (.int .u32))))
  .no) 24 ⟨.struct [(0, 5), (1, 22)], 2, 32, some [.int .u8 0, .imm [] 0 (some 0)]⟩ (some (.pair (.int .u8) (.sl (.int .u32))))
  (.at .no 25 ⟨.slice 5, 1, 24, some [.imm [] 0 (some 0)]⟩ (some (.sl (.int .u8)))
  .no)) 26 ⟨.int .u64, 1, 8, some [.int .u64 0]⟩ (some (.int .u64))
  (.at (.at .no 27 ⟨.struct [(0, 25), (1, 25), (2, 26)], 3, 56, some [.imm [] 0 (some 0), .imm [] 0 (some 0), .int .u64 0]⟩ (some (.pair (.sl (.int .u8)) (.pair (.sl (.int .u8)) (.int .u64))))
  .no) 28 ⟨.struct [(0, 25), (1, 25), (2, 26)], 3, 56, some [.imm [] 0 (some 0), .imm [] 0 (some 0), .int .u64 0]⟩ (some (.pair (.sl (.int .u8)) (.pair (.sl (.int .u8)) (.int .u64))))
  .no)))) 29 ⟨.func, 1, 8, some [.nilf]⟩ none
  (.at (.at (.at (.at (.at .no 30 ⟨.slice 26, 1, 24, some [.imm [] 0 (some 0)]⟩ (some (.sl (.int .u64)))
  .no) 31 ⟨.struct [(0, 3), (1, 30)], 2, 32, some [.int .i64 0, .imm [] 0 (some 0)]⟩ (some (.pair (.int .i64) (.sl (.int .u64))))
  (.at .no 32 ⟨.struct [(0, 3), (1, 30)], 2, 32, some [.int .i64 0, .imm [] 0 (some 0)]⟩ (some (.pair (.int .i64) (.sl (.int .u64))))
  .no)) 33 ⟨.func, 1, 8, some [.nilf]⟩ none
  (.at (.at .no 34 ⟨.slice 44, 1, 24, some [.imm [] 0 (some 0)]⟩ (some (.sl (.int .u8)))
  .no) 35 ⟨.func, 1, 8, some [.nilf]⟩ none
  .no)) 36 ⟨.int .i64, 1, 8, some [.int .i64 0]⟩ (some (.int .i64))
  (.at (.at (.at .no 37 ⟨.other, 1, 0, none⟩ none
  .no) 38 ⟨.func, 1, 8, some [.nilf]⟩ none
  (.at .no 39 ⟨.slice 3, 1, 24, some [.imm [] 0 (some 0)]⟩ (some (.sl (.int .i64)))
  .no)) 40 ⟨.other, 1, 0, none⟩ none
  (.at (.at .no 41 ⟨.func, 1, 8, some [.nilf]⟩ none
  .no) 42 ⟨.other, 1, 0, none⟩ none
  .no))) 43 ⟨.func, 1, 8, some [.nilf]⟩ none
  (.at (.at (.at (.at .no 44 ⟨.int .u8, 1, 1, some [.int .u8 0]⟩ (some (.int .u8))
  .no) 45 ⟨.func, 1, 8, some [.nilf]⟩ none
  (.at .no 46 ⟨.func, 1, 8, some [.nilf]⟩ none
  .no)) 47 ⟨.func, 1, 8, some [.nilf]⟩ none
  (.at (.at .no 48 ⟨.other, 1, 0, none⟩ none
  .no) 49 ⟨.func, 1, 8, some [.nilf]⟩ none
  .no)) 50 ⟨.func, 1, 8, some [.nilf]⟩ none
  (.at (.at (.at .no 51 ⟨.int .u32, 1, 4, some [.int .u32 0]⟩ (some (.int .u32))
  .no) 52 ⟨.other, 1, 0, none⟩ none
  .no) 53 ⟨.func, 1, 8, some [.nilf]⟩ none
  (.at (.at .no 54 ⟨.func, 1, 8, some [.nilf]⟩ none
  .no) 55 ⟨.struct [(0, 5), (1, 26)], 2, 16, some [.int .u8 0, .int .u64 0]⟩ (some (.pair (.int .u8) (.int .u64)))
  .no))))) 56 ⟨.struct [(0, 5), (1, 26)], 2, 16, some [.int .u8 0, .int .u64 0]⟩ (some (.pair (.int .u8) (.int .u64)))
  (.at (.at (.at (.at (.at (.at .no 57 ⟨.array 2 30, 2, 48, some [.imm [] 0 (some 0), .imm [] 0 (some 0)]⟩ (some (.pair (.sl (.int .u64)) (.sl (.int .u64))))
  .no) 58 ⟨.struct [(0, 3), (1, 26)], 2, 16, some [.int .i64 0, .int .u64 0]⟩ (some (.pair (.int .i64) (.int .u64)))
  (.at .no 59 ⟨.struct [(0, 3), (1, 26)], 2, 16, some [.int .i64 0, .int .u64 0]⟩ (some (.pair (.int .i64) (.int .u64)))
  .no)) 60 ⟨.func, 1, 8, some [.nilf]⟩ none
  (.at (.at .no 61 ⟨.func, 1, 8, some [.nilf]⟩ none
  .no) 62 ⟨.func, 1, 8, some [.nilf]⟩ none
  .no)) 63 ⟨.func, 1, 8, some [.nilf]⟩ none
  (.at (.at (.at .no 64 ⟨.struct [(0, 3), (1, 30), (2, 3), (3, 39)], 4, 64, some [.int .i64 0, .imm [] 0 (some 0), .int .i64 0, .imm [] 0 (some 0)]⟩ (some (.pair (.int .i64) (.pair (.sl (.int .u64)) (.pair (.int .i64) (.sl (.int .i64))))))
  .no) 65 ⟨.struct [(0, 3), (1, 30), (2, 3), (3, 39)], 4, 64, some [.int .i64 0, .imm [] 0 (some 0), .int .i64 0, .imm [] 0 (some 0)]⟩ (some (.pair (.int .i64) (.pair (.sl (.int .u64)) (.pair (.int .i64) (.sl (.int .i64))))))
  (.at .no 66 ⟨.func, 1, 8, some [.nilf]⟩ none
  .no)) 67 ⟨.func, 1, 8, some [.nilf]⟩ none
  (.at (.at .no 68 ⟨.func, 1, 8, some [.nilf]⟩ none
  .no) 69 ⟨.func, 1, 8, some [.nilf]⟩ none
  .no))) 70 ⟨.func, 1, 8, some [.nilf]⟩ none
  (.at (.at (.at (.at .no 71 ⟨.func, 1, 8, some [.nilf]⟩ none
  .no) 72 ⟨.func, 1, 8, some [.nilf]⟩ none
  (.at .no 73 ⟨.func, 1, 8, some [.nilf]⟩ none
  .no)) 74 ⟨.struct [(0, 59), (2, 26)], 3, 24, some [.int .i64 0, .int .u64 0, .int .u64 0]⟩ (some (.pair (.pair (.int .i64) (.int .u64)) (.int .u64)))
  (.at (.at .no 75 ⟨.struct [(0, 59), (2, 26)], 3, 24, some [.int .i64 0, .int .u64 0, .int .u64 0]⟩ (some (.pair (.pair (.int .i64) (.int .u64)) (.int .u64)))
  .no) 76 ⟨.other, 1, 0, none⟩ none
  .no)) 77 ⟨.func, 1, 8, some [.nilf]⟩ none
  (.at (.at (.at .no 78 ⟨.func, 1, 8, some [.nilf]⟩ none
  .no) 79 ⟨.slice 34, 1, 24, some [.imm [] 0 (some 0)]⟩ (some (.sl (.sl (.int .u8))))
  .no) 80 ⟨.func, 1, 8, some [.nilf]⟩ none
  (.at (.at .no 81 ⟨.func, 1, 8, some [.nilf]⟩ none
  .no) 82 ⟨.func, 1, 8, some [.nilf]⟩ none
  .no)))) 83 ⟨.func, 1, 8, some [.nilf]⟩ none
  (.at (.at (.at (.at (.at .no 84 ⟨.ptr 75, 1, 8, some [.nilp]⟩ none
  .no) 85 ⟨.int .u64, 1, 8, some [.int .u64 0]⟩ (some (.int .u64))
  (.at .no 86 ⟨.func, 1, 8, some [.nilf]⟩ none
  .no)) 87 ⟨.func, 1, 8, some [.nilf]⟩ none
  (.at (.at .no 88 ⟨.func, 1, 8, some [.nilf]⟩ none
  .no) 89 ⟨.func, 1, 8, some [.nilf]⟩ none
  .no)) 90 ⟨.func, 1, 8, some [.nilf]⟩ none
  (.at (.at (.at .no 91 ⟨.struct [(0, 17), (1, 17), (2, 17), (3, 9)], 4, 40, some [.nilp, .nilp, .nilp, .str []]⟩ none
  .no) 92 ⟨.struct [(0, 17), (1, 17), (2, 17), (3, 9)], 4, 40, some [.nilp, .nilp, .nilp, .str []]⟩ none
  (.at .no 93 ⟨.array 0 16, 0, 0, some []⟩ none
  .no)) 94 ⟨.struct [(0, 93)], 0, 0, some []⟩ none
  (.at (.at .no 95 ⟨.struct [(0, 93)], 0, 0, some []⟩ none
  .no) 96 ⟨.func, 1, 8, some [.nilf]⟩ none
  .no))) 97 ⟨.int .u8, 1, 1, some [.int .u8 0]⟩ (some (.int .u8))
  (.at (.at (.at (.at .no 98 ⟨.int .u8, 1, 1, some [.int .u8 0]⟩ (some (.int .u8))
  .no) 99 ⟨.func, 1, 8, some [.nilf]⟩ none
  (.at .no 100 ⟨.ptr 5, 1, 8, some [.nilp]⟩ none
  .no)) 101 ⟨.int .i32, 1, 4, some [.int .i32 0]⟩ (some (.int .i32))
  (.at (.at .no 102 ⟨.int .i32, 1, 4, some [.int .i32 0]⟩ (some (.int .i32))
  .no) 103 ⟨.struct [(0, 12), (1, 12), (2, 51), (3, 97), (4, 5), (5, 5), (6, 98), (7, 99), (8, 100), (9, 101), (10, 102)], 11, 48, some [.int .u64 0, .int .u64 0, .int .u32 0, .int .u8 0, .int .u8 0, .int .u8 0, .int .u8 0, .nilf, .nilp, .int .i32 0, .int .i32 0]⟩ none
  .no)) 104 ⟨.struct [(0, 12), (1, 12), (2, 51), (3, 97), (4, 5), (5, 5), (6, 98), (7, 99), (8, 100), (9, 101), (10, 102)], 11, 48, some [.int .u64 0, .int .u64 0, .int .u32 0, .int .u8 0, .int .u8 0, .int .u8 0, .int .u8 0, .nilf, .nilp, .int .i32 0, .int .i32 0]⟩ none
  (.at (.at (.at .no 105 ⟨.func, 1, 8, some [.nilf]⟩ none
  .no) 106 ⟨.other, 1, 8, some [.nilp]⟩ none
  .no) 107 ⟨.func, 1, 8, some [.nilf]⟩ none
  (.at (.at .no 108 ⟨.func, 1, 8, some [.nilf]⟩ none
  .no) 109 ⟨.func, 1, 8, some [.nilf]⟩ none
  .no))))))
theorem tb_ok : tb.ok Try.prog := ⟨⟨⟨⟨⟨⟨⟨trivial, ⟨Try.ti2, rfl⟩, trivial⟩, ⟨Try.ti3, rfl⟩, ⟨trivial, ⟨Try.ti4, rfl⟩, trivial⟩⟩, ⟨Try.ti5, rfl⟩, ⟨⟨trivial, ⟨Try.ti6, rfl⟩, trivial⟩, ⟨Try.ti7, rfl⟩, trivial⟩⟩, ⟨Try.ti8, rfl⟩, ⟨⟨⟨trivial, ⟨Try.ti9, rfl⟩, trivial⟩, ⟨Try.ti10, rfl⟩, ⟨trivial, ⟨Try.ti11, rfl⟩, trivial⟩⟩, ⟨Try.ti12, rfl⟩, ⟨⟨trivial, ⟨Try.ti13, rfl⟩, trivial⟩, ⟨Try.ti14, rfl⟩, trivial⟩⟩⟩, ⟨Try.ti15, rfl⟩, ⟨⟨⟨⟨trivial, ⟨Try.ti16, rfl⟩, trivial⟩, ⟨Try.ti17, rfl⟩, ⟨trivial, ⟨Try.ti18, rfl⟩, trivial⟩⟩, ⟨Try.ti19, rfl⟩, ⟨⟨trivial, ⟨Try.ti20, rfl⟩, trivial⟩, ⟨Try.ti21, rfl⟩, trivial⟩⟩, ⟨Try.ti22, rfl⟩, ⟨⟨⟨trivial, ⟨Try.ti23, rfl⟩, trivial⟩, ⟨Try.ti24, rfl⟩, ⟨trivial, ⟨Try.ti25, rfl⟩, trivial⟩⟩, ⟨Try.ti26, rfl⟩, ⟨⟨trivial, ⟨Try.ti27, rfl⟩, trivial⟩, ⟨Try.ti28, rfl⟩, trivial⟩⟩⟩⟩, ⟨Try.ti29, rfl⟩, ⟨⟨⟨⟨⟨trivial, ⟨Try.ti30, rfl⟩, trivial⟩, ⟨Try.ti31, rfl⟩, ⟨trivial, ⟨Try.ti32, rfl⟩, trivial⟩⟩, ⟨Try.ti33, rfl⟩, ⟨⟨trivial, ⟨Try.ti34, rfl⟩, trivial⟩, ⟨Try.ti35, rfl⟩, trivial⟩⟩, ⟨Try.ti36, rfl⟩, ⟨⟨⟨trivial, ⟨Try.ti37, rfl⟩, trivial⟩, ⟨Try.ti38, rfl⟩, ⟨trivial, ⟨Try.ti39, rfl⟩, trivial⟩⟩, ⟨Try.ti40, rfl⟩, ⟨⟨trivial, ⟨Try.ti41, rfl⟩, trivial⟩, ⟨Try.ti42, rfl⟩, trivial⟩⟩⟩, ⟨Try.ti43, rfl⟩, ⟨⟨⟨⟨trivial, ⟨Try.ti44, rfl⟩, trivial⟩, ⟨Try.ti45, rfl⟩, ⟨trivial, ⟨Try.ti46, rfl⟩, trivial⟩⟩, ⟨Try.ti47, rfl⟩, ⟨⟨trivial, ⟨Try.ti48, rfl⟩, trivial⟩, ⟨Try.ti49, rfl⟩, trivial⟩⟩, ⟨Try.ti50, rfl⟩, ⟨⟨⟨trivial, ⟨Try.ti51, rfl⟩, trivial⟩, ⟨Try.ti52, rfl⟩, trivial⟩, ⟨Try.ti53, rfl⟩, ⟨⟨trivial, ⟨Try.ti54, rfl⟩, trivial⟩, ⟨Try.ti55, rfl⟩, trivial⟩⟩⟩⟩⟩, ⟨Try.ti56, rfl⟩, ⟨⟨⟨⟨⟨⟨trivial, ⟨Try.ti57, rfl⟩, trivial⟩, ⟨Try.ti58, rfl⟩, ⟨trivial, ⟨Try.ti59, rfl⟩, trivial⟩⟩, ⟨Try.ti60, rfl⟩, ⟨⟨trivial, ⟨Try.ti61, rfl⟩, trivial⟩, ⟨Try.ti62, rfl⟩, trivial⟩⟩, ⟨Try.ti63, rfl⟩, ⟨⟨⟨trivial, ⟨Try.ti64, rfl⟩, trivial⟩, ⟨Try.ti65, rfl⟩, ⟨trivial, ⟨Try.ti66, rfl⟩, trivial⟩⟩, ⟨Try.ti67, rfl⟩, ⟨⟨trivial, ⟨Try.ti68, rfl⟩, trivial⟩, ⟨Try.ti69, rfl⟩, trivial⟩⟩⟩, ⟨Try.ti70, rfl⟩, ⟨⟨⟨⟨trivial, ⟨Try.ti71, rfl⟩, trivial⟩, ⟨Try.ti72, rfl⟩, ⟨trivial, ⟨Try.ti73, rfl⟩, trivial⟩⟩, ⟨Try.ti74, rfl⟩, ⟨⟨trivial, ⟨Try.ti75, rfl⟩, trivial⟩, ⟨Try.ti76, rfl⟩, trivial⟩⟩, ⟨Try.ti77, rfl⟩, ⟨⟨⟨trivial, ⟨Try.ti78, rfl⟩, trivial⟩, ⟨Try.ti79, rfl⟩, trivial⟩, ⟨Try.ti80, rfl⟩, ⟨⟨trivial, ⟨Try.ti81, rfl⟩, trivial⟩, ⟨Try.ti82, rfl⟩, trivial⟩⟩⟩⟩, ⟨Try.ti83, rfl⟩, ⟨⟨⟨⟨⟨trivial, ⟨Try.ti84, rfl⟩, trivial⟩, ⟨Try.ti85, rfl⟩, ⟨trivial, ⟨Try.ti86, rfl⟩, trivial⟩⟩, ⟨Try.ti87, rfl⟩, ⟨⟨trivial, ⟨Try.ti88, rfl⟩, trivial⟩, ⟨Try.ti89, rfl⟩, trivial⟩⟩, ⟨Try.ti90, rfl⟩, ⟨⟨⟨trivial, ⟨Try.ti91, rfl⟩, trivial⟩, ⟨Try.ti92, rfl⟩, ⟨trivial, ⟨Try.ti93, rfl⟩, trivial⟩⟩, ⟨Try.ti94, rfl⟩, ⟨⟨trivial, ⟨Try.ti95, rfl⟩, trivial⟩, ⟨Try.ti96, rfl⟩, trivial⟩⟩⟩, ⟨Try.ti97, rfl⟩, ⟨⟨⟨⟨trivial, ⟨Try.ti98, rfl⟩, trivial⟩, ⟨Try.ti99, rfl⟩, ⟨trivial, ⟨Try.ti100, rfl⟩, trivial⟩⟩, ⟨Try.ti101, rfl⟩, ⟨⟨trivial, ⟨Try.ti102, rfl⟩, trivial⟩, ⟨Try.ti103, rfl⟩, trivial⟩⟩, ⟨Try.ti104, rfl⟩, ⟨⟨⟨trivial, ⟨Try.ti105, rfl⟩, trivial⟩, ⟨Try.ti106, rfl⟩, trivial⟩, ⟨Try.ti107, rfl⟩, ⟨⟨trivial, ⟨Try.ti108, rfl⟩, trivial⟩, ⟨Try.ti109, rfl⟩, trivial⟩⟩⟩⟩⟩⟩
def ty : TyT := tb.find
theorem ty_ok : TyOk Try.prog ty := tyOk_of tb_ok
end Go.Proofs.Ytfcbahfdgopgfaa
