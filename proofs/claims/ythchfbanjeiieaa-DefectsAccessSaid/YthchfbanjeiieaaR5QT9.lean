/-
  The table of this seat's types.
-/
import Derived.Test.YthchfbanjeiieaaR5QT4
import Derived.Test.YthchfbanjeiieaaR5QSyI
set_option linter.unusedSimpArgs false
set_option linter.unusedVariables false
namespace Go.Proofs.Ythchfbanjeiieaa
open Go.Abs
set_option maxRecDepth 100000
def tb : TB := (.at (.at (.at (.at (.at (.at .no 2 ⟨.int .i64, 1, 8, some [.int .i64 0]⟩ (some (.int .i64))
  .no) 3 ⟨.int .i64, 1, 8, some [.int .i64 0]⟩ (some (.int .i64))
  (.at .no 4 ⟨.bool, 1, 1, some [.bool false]⟩ (some .bool)
  .no)) 5 ⟨.int .u8, 1, 1, some [.int .u8 0]⟩ (some (.int .u8))
  (.at (.at .no 9 ⟨.string, 1, 16, some [.str []]⟩ (some .str)
  .no) 22 ⟨.int .u16, 1, 2, some [.int .u16 0]⟩ (some (.int .u16))
  (.at .no 23 ⟨.struct [(0, 5), (1, 22), (2, 5), (3, 5), (4, 5)], 5, 8, some [.int .u8 0, .int .u16 0, .int .u8 0, .int .u8 0, .int .u8 0]⟩ (some (.pair (.int .u8) (.pair (.int .u16) (.pair (.int .u8) (.pair (.int .u8) (.int .u8))))))
  .no))) 24 ⟨.struct [(0, 5), (1, 22), (2, 5), (3, 5), (4, 5)], 5, 8, some [.int .u8 0, .int .u16 0, .int .u8 0, .int .u8 0, .int .u8 0]⟩ (some (.pair (.int .u8) (.pair (.int .u16) (.pair (.int .u8) (.pair (.int .u8) (.int .u8))))))
  (.at (.at (.at .no 25 ⟨.slice 43, 1, 24, some [.imm [] 0 (some 0)]⟩ (some (.sl (.pair .bool (.pair (.int .u8) (.int .u8)))))
  .no) 26 ⟨.func, 1, 8, some [.nilf]⟩ none
  (.at .no 27 ⟨.ptr 57, 1, 8, some [.nilp]⟩ none
  .no)) 28 ⟨.int .i64, 1, 8, some [.int .i64 0]⟩ (some (.int .i64))
  (.at (.at .no 29 ⟨.other, 1, 0, none⟩ none
  .no) 30 ⟨.func, 1, 8, some [.nilf]⟩ none
  .no))) 31 ⟨.int .u8, 1, 1, some [.int .u8 0]⟩ (some (.int .u8))
  (.at (.at (.at (.at .no 32 ⟨.struct [(0, 31), (1, 3), (2, 3)], 3, 24, some [.int .u8 0, .int .i64 0, .int .i64 0]⟩ (some (.pair (.int .u8) (.pair (.int .i64) (.int .i64))))
  .no) 33 ⟨.struct [(0, 31), (1, 3), (2, 3)], 3, 24, some [.int .u8 0, .int .i64 0, .int .i64 0]⟩ (some (.pair (.int .u8) (.pair (.int .i64) (.int .i64))))
  (.at .no 34 ⟨.other, 1, 0, none⟩ none
  .no)) 35 ⟨.func, 1, 8, some [.nilf]⟩ none
  (.at (.at .no 36 ⟨.slice 3, 1, 24, some [.imm [] 0 (some 0)]⟩ (some (.sl (.int .i64)))
  .no) 37 ⟨.struct [(0, 36), (1, 3), (2, 3), (3, 3)], 4, 48, some [.imm [] 0 (some 0), .int .i64 0, .int .i64 0, .int .i64 0]⟩ (some (.pair (.sl (.int .i64)) (.pair (.int .i64) (.pair (.int .i64) (.int .i64)))))
  (.at .no 38 ⟨.struct [(0, 36), (1, 3), (2, 3), (3, 3)], 4, 48, some [.imm [] 0 (some 0), .int .i64 0, .int .i64 0, .int .i64 0]⟩ (some (.pair (.sl (.int .i64)) (.pair (.int .i64) (.pair (.int .i64) (.int .i64)))))
  .no))) 39 ⟨.func, 1, 8, some [.nilf]⟩ none
  (.at (.at (.at .no 40 ⟨.slice 46, 1, 24, some [.imm [] 0 (some 0)]⟩ (some (.sl (.int .u8)))
  .no) 41 ⟨.func, 1, 8, some [.nilf]⟩ none
  (.at .no 42 ⟨.struct [(0, 4), (1, 5), (2, 5)], 3, 3, some [.bool false, .int .u8 0, .int .u8 0]⟩ (some (.pair .bool (.pair (.int .u8) (.int .u8))))
  .no)) 43 ⟨.struct [(0, 4), (1, 5), (2, 5)], 3, 3, some [.bool false, .int .u8 0, .int .u8 0]⟩ (some (.pair .bool (.pair (.int .u8) (.int .u8))))
  (.at (.at .no 44 ⟨.func, 1, 8, some [.nilf]⟩ none
  .no) 45 ⟨.func, 1, 8, some [.nilf]⟩ none
  .no)))) 46 ⟨.int .u8, 1, 1, some [.int .u8 0]⟩ (some (.int .u8))
  (.at (.at (.at (.at (.at .no 47 ⟨.func, 1, 8, some [.nilf]⟩ none
  .no) 48 ⟨.other, 1, 0, none⟩ none
  (.at .no 49 ⟨.func, 1, 8, some [.nilf]⟩ none
  .no)) 50 ⟨.func, 1, 8, some [.nilf]⟩ none
  (.at (.at .no 51 ⟨.func, 1, 8, some [.nilf]⟩ none
  .no) 52 ⟨.func, 1, 8, some [.nilf]⟩ none
  (.at .no 53 ⟨.func, 1, 8, some [.nilf]⟩ none
  .no))) 54 ⟨.func, 1, 8, some [.nilf]⟩ none
  (.at (.at (.at .no 55 ⟨.func, 1, 8, some [.nilf]⟩ none
  .no) 56 ⟨.struct [(0, 33), (3, 40), (4, 4)], 5, 56, some [.int .u8 0, .int .i64 0, .int .i64 0, .imm [] 0 (some 0), .bool false]⟩ (some (.pair (.pair (.int .u8) (.pair (.int .i64) (.int .i64))) (.pair (.sl (.int .u8)) .bool)))
  (.at .no 57 ⟨.struct [(0, 33), (3, 40), (4, 4)], 5, 56, some [.int .u8 0, .int .i64 0, .int .i64 0, .imm [] 0 (some 0), .bool false]⟩ (some (.pair (.pair (.int .u8) (.pair (.int .i64) (.int .i64))) (.pair (.sl (.int .u8)) .bool)))
  .no)) 58 ⟨.func, 1, 8, some [.nilf]⟩ none
  (.at (.at .no 59 ⟨.func, 1, 8, some [.nilf]⟩ none
  .no) 60 ⟨.func, 1, 8, some [.nilf]⟩ none
  .no))) 61 ⟨.other, 1, 8, some [.junk]⟩ none
  (.at (.at (.at (.at .no 62 ⟨.func, 1, 8, some [.nilf]⟩ none
  .no) 63 ⟨.func, 1, 8, some [.nilf]⟩ none
  (.at .no 64 ⟨.func, 1, 8, some [.nilf]⟩ none
  .no)) 65 ⟨.func, 1, 8, some [.nilf]⟩ none
  (.at (.at .no 66 ⟨.func, 1, 8, some [.nilf]⟩ none
  .no) 67 ⟨.func, 1, 8, some [.nilf]⟩ none
  (.at .no 68 ⟨.func, 1, 8, some [.nilf]⟩ none
  .no))) 69 ⟨.func, 1, 8, some [.nilf]⟩ none
  (.at (.at (.at .no 70 ⟨.func, 1, 8, some [.nilf]⟩ none
  .no) 71 ⟨.slice 33, 1, 24, some [.imm [] 0 (some 0)]⟩ (some (.sl (.pair (.int .u8) (.pair (.int .i64) (.int .i64)))))
  (.at .no 72 ⟨.func, 1, 8, some [.nilf]⟩ none
  .no)) 73 ⟨.slice 9, 1, 24, some [.imm [] 0 (some 0)]⟩ (some (.sl .str))
  (.at (.at .no 74 ⟨.func, 1, 8, some [.nilf]⟩ none
  .no) 75 ⟨.func, 1, 8, some [.nilf]⟩ none
  .no)))))
theorem tb_ok : tb.ok Try.prog := ⟨⟨⟨⟨⟨⟨trivial, ⟨Try.ti2, rfl⟩, trivial⟩, ⟨Try.ti3, rfl⟩, ⟨trivial, ⟨Try.ti4, rfl⟩, trivial⟩⟩, ⟨Try.ti5, rfl⟩, ⟨⟨trivial, ⟨Try.ti9, rfl⟩, trivial⟩, ⟨Try.ti22, rfl⟩, ⟨trivial, ⟨Try.ti23, rfl⟩, trivial⟩⟩⟩, ⟨Try.ti24, rfl⟩, ⟨⟨⟨trivial, ⟨Try.ti25, rfl⟩, trivial⟩, ⟨Try.ti26, rfl⟩, ⟨trivial, ⟨Try.ti27, rfl⟩, trivial⟩⟩, ⟨Try.ti28, rfl⟩, ⟨⟨trivial, ⟨Try.ti29, rfl⟩, trivial⟩, ⟨Try.ti30, rfl⟩, trivial⟩⟩⟩, ⟨Try.ti31, rfl⟩, ⟨⟨⟨⟨trivial, ⟨Try.ti32, rfl⟩, trivial⟩, ⟨Try.ti33, rfl⟩, ⟨trivial, ⟨Try.ti34, rfl⟩, trivial⟩⟩, ⟨Try.ti35, rfl⟩, ⟨⟨trivial, ⟨Try.ti36, rfl⟩, trivial⟩, ⟨Try.ti37, rfl⟩, ⟨trivial, ⟨Try.ti38, rfl⟩, trivial⟩⟩⟩, ⟨Try.ti39, rfl⟩, ⟨⟨⟨trivial, ⟨Try.ti40, rfl⟩, trivial⟩, ⟨Try.ti41, rfl⟩, ⟨trivial, ⟨Try.ti42, rfl⟩, trivial⟩⟩, ⟨Try.ti43, rfl⟩, ⟨⟨trivial, ⟨Try.ti44, rfl⟩, trivial⟩, ⟨Try.ti45, rfl⟩, trivial⟩⟩⟩⟩, ⟨Try.ti46, rfl⟩, ⟨⟨⟨⟨⟨trivial, ⟨Try.ti47, rfl⟩, trivial⟩, ⟨Try.ti48, rfl⟩, ⟨trivial, ⟨Try.ti49, rfl⟩, trivial⟩⟩, ⟨Try.ti50, rfl⟩, ⟨⟨trivial, ⟨Try.ti51, rfl⟩, trivial⟩, ⟨Try.ti52, rfl⟩, ⟨trivial, ⟨Try.ti53, rfl⟩, trivial⟩⟩⟩, ⟨Try.ti54, rfl⟩, ⟨⟨⟨trivial, ⟨Try.ti55, rfl⟩, trivial⟩, ⟨Try.ti56, rfl⟩, ⟨trivial, ⟨Try.ti57, rfl⟩, trivial⟩⟩, ⟨Try.ti58, rfl⟩, ⟨⟨trivial, ⟨Try.ti59, rfl⟩, trivial⟩, ⟨Try.ti60, rfl⟩, trivial⟩⟩⟩, ⟨Try.ti61, rfl⟩, ⟨⟨⟨⟨trivial, ⟨Try.ti62, rfl⟩, trivial⟩, ⟨Try.ti63, rfl⟩, ⟨trivial, ⟨Try.ti64, rfl⟩, trivial⟩⟩, ⟨Try.ti65, rfl⟩, ⟨⟨trivial, ⟨Try.ti66, rfl⟩, trivial⟩, ⟨Try.ti67, rfl⟩, ⟨trivial, ⟨Try.ti68, rfl⟩, trivial⟩⟩⟩, ⟨Try.ti69, rfl⟩, ⟨⟨⟨trivial, ⟨Try.ti70, rfl⟩, trivial⟩, ⟨Try.ti71, rfl⟩, ⟨trivial, ⟨Try.ti72, rfl⟩, trivial⟩⟩, ⟨Try.ti73, rfl⟩, ⟨⟨trivial, ⟨Try.ti74, rfl⟩, trivial⟩, ⟨Try.ti75, rfl⟩, trivial⟩⟩⟩⟩⟩
def ty : TyT := tb.find
theorem ty_ok : TyOk Try.prog ty := tyOk_of tb_ok
end Go.Proofs.Ythchfbanjeiieaa
