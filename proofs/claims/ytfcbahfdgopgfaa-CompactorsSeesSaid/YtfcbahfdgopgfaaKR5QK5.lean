/-
  The stripped code of CompactorsSees.
-/
import Derived.Test.YtfcbahfdgopgfaaKR5QK1
set_option linter.unusedSimpArgs false
set_option linter.unusedVariables false
namespace Go.Proofs.Ytfcbahfdgopgfaa
open Go.Abs
/- probecard/probecardlaw33.CompactorsSees -/
def C5 : CC := (.seq (.reg [⟨(some 2), .box 24 (.tmp 0), none, [0]⟩,
    ⟨(some 3), .box 28 (.tmp 1), none, [1]⟩,
    ⟨(some 4), .assign (.const (.bool false)), none, []⟩])
  (.seq (.seq (.reg [⟨(some 18), .fieldAddr 24 (.tmp 2) 1, none, []⟩,
    ⟨(some 19), .load 22 (.tmp 18), none, [18]⟩,
    ⟨(some 20), .call ⟨.builtin .len, #[(.tmp 19)], #[22]⟩, none, [19]⟩,
    ⟨(some 21), .binOp .gtr 3 (.tmp 20) (.const (.int .i64 12)) 3, none, [20]⟩])
  (.cond (.tmp 21) (.seq (.reg [⟨(some 22), .call ⟨.value (.func 9), #[], #[]⟩, none, []⟩,
    ⟨(some 4), .assign (.tmp 22), none, [22]⟩])
  .ret)
  .skip))
  (.seq (.reg [⟨(some 23), .load 24 (.tmp 2), none, []⟩,
    ⟨(some 24), .call ⟨.value (.func 10), #[(.tmp 23)], #[24]⟩, none, [23]⟩,
    ⟨(some 5), .alloc 32, none, []⟩,
    ⟨none, .store 32 (.tmp 5) (.tmp 24), none, [24]⟩])
  (.seq (.reg [⟨(some 25), .fieldAddr 32 (.tmp 5) 1, none, []⟩,
    ⟨(some 26), .load 30 (.tmp 25), none, [25]⟩,
    ⟨(some 27), .call ⟨.builtin .len, #[(.tmp 26)], #[30]⟩, none, [26]⟩,
    ⟨(some 6), .assign (.tmp 27), none, [27]⟩])
  (.seq (.drw [⟨(some 28), .move (.tmp 6), none, []⟩,
    ⟨(some 29), .makeSlice 34 (.tmp 28) (.tmp 28), none, [28]⟩,
    ⟨(some 30), .move (.tmp 6), none, []⟩,
    ⟨(some 31), .makeSlice 34 (.tmp 30) (.tmp 30), none, [30]⟩,
    ⟨(some 7), .assign (.tmp 29), none, [29]⟩,
    ⟨(some 8), .assign (.tmp 31), none, [31]⟩] [0, 1, 0, 4, 3, 31])
  (.seq (.reg [⟨(some 9), .assign (.const (.int .i64 0)), none, []⟩])
  (.seq (.reg [⟨(some 10), .assign (.const (.bool true)), none, []⟩,
    ⟨(some 11), .assign (.const (.bool true)), none, []⟩])
  (.seq (.seq (.reg [⟨(some 12), .assign (.const (.int .i64 0)), none, []⟩])
  (.block 0 (.loop (.seq (.seq (.reg [⟨(some 32), .move (.tmp 12), none, []⟩,
    ⟨(some 33), .move (.tmp 6), none, []⟩,
    ⟨(some 34), .binOp .lss 3 (.tmp 32) (.tmp 33) 3, none, [32, 33]⟩])
  (.cond (.tmp 34) .skip
  (.exit 0)))
  (.seq (.block 1 (.seq (.seq (.reg [⟨(some 37), .move (.tmp 12), none, []⟩,
    ⟨(some 38), .fieldAddr 28 (.tmp 3) 0, none, []⟩,
    ⟨(some 39), .load 25 (.tmp 38), none, [38]⟩,
    ⟨(some 40), .call ⟨.builtin .len, #[(.tmp 39)], #[25]⟩, none, [39]⟩,
    ⟨(some 41), .binOp .lss 3 (.tmp 37) (.tmp 40) 3, none, [37, 40]⟩])
  (.cond (.tmp 41) (.reg [⟨(some 42), .move (.tmp 7), none, []⟩,
    ⟨(some 43), .move (.tmp 12), none, []⟩,
    ⟨(some 44), .fieldAddr 28 (.tmp 3) 0, none, []⟩,
    ⟨(some 45), .load 25 (.tmp 44), none, [44]⟩,
    ⟨(some 46), .move (.tmp 12), none, []⟩,
    ⟨(some 47), .indexAddr 25 (.tmp 45) (.tmp 46), none, [45, 46]⟩,
    ⟨(some 48), .load 5 (.tmp 47), none, [47]⟩,
    ⟨(some 49), .binOp .rem 5 (.tmp 48) (.const (.int .u8 2)) 5, none, [48]⟩,
    ⟨(some 50), .indexAddr 34 (.tmp 42) (.tmp 43), none, [42, 43]⟩,
    ⟨none, .store 44 (.tmp 50) (.tmp 49), none, [49, 50]⟩])
  .skip))
  (.seq (.reg [⟨(some 51), .move (.tmp 8), none, []⟩,
    ⟨(some 52), .move (.tmp 12), none, []⟩,
    ⟨(some 53), .move (.tmp 7), none, []⟩,
    ⟨(some 54), .move (.tmp 12), none, []⟩,
    ⟨(some 55), .indexAddr 34 (.tmp 53) (.tmp 54), none, [53, 54]⟩,
    ⟨(some 56), .load 44 (.tmp 55), none, [55]⟩,
    ⟨(some 57), .indexAddr 34 (.tmp 51) (.tmp 52), none, [51, 52]⟩,
    ⟨none, .store 44 (.tmp 57) (.tmp 56), none, [56, 57]⟩])
  (.seq (.seq (.reg [⟨(some 58), .move (.tmp 12), none, []⟩,
    ⟨(some 59), .fieldAddr 28 (.tmp 3) 1, none, []⟩,
    ⟨(some 60), .load 25 (.tmp 59), none, [59]⟩,
    ⟨(some 61), .call ⟨.builtin .len, #[(.tmp 60)], #[25]⟩, none, [60]⟩,
    ⟨(some 62), .binOp .lss 3 (.tmp 58) (.tmp 61) 3, none, [58, 61]⟩,
    ⟨(some 63), .move (.tmp 62), none, [62]⟩,
    ⟨(some 64), .fieldAddr 28 (.tmp 3) 1, (some (63, true)), []⟩,
    ⟨(some 65), .load 25 (.tmp 64), (some (63, true)), [64]⟩,
    ⟨(some 66), .move (.tmp 12), (some (63, true)), []⟩,
    ⟨(some 67), .indexAddr 25 (.tmp 65) (.tmp 66), (some (63, true)), [65, 66]⟩,
    ⟨(some 68), .load 5 (.tmp 67), (some (63, true)), [67]⟩,
    ⟨(some 69), .binOp .rem 5 (.tmp 68) (.const (.int .u8 4)) 5, (some (63, true)), [68]⟩,
    ⟨(some 70), .binOp .eql 5 (.tmp 69) (.const (.int .u8 0)) 5, (some (63, true)), [69]⟩,
    ⟨(some 71), .pick (.tmp 63) (.tmp 70) (.const (.bool false)), none, [63, 70]⟩])
  (.cond (.tmp 71) (.seq (.reg [⟨(some 72), .move (.tmp 8), none, []⟩,
    ⟨(some 73), .move (.tmp 12), none, []⟩,
    ⟨(some 74), .move (.tmp 7), none, []⟩,
    ⟨(some 75), .move (.tmp 12), none, []⟩,
    ⟨(some 76), .indexAddr 34 (.tmp 74) (.tmp 75), none, [74, 75]⟩,
    ⟨(some 77), .load 44 (.tmp 76), none, [76]⟩,
    ⟨(some 78), .binOp .sub 44 (.const (.int .u8 1)) (.tmp 77) 44, none, [77]⟩,
    ⟨(some 79), .indexAddr 34 (.tmp 72) (.tmp 73), none, [72, 73]⟩,
    ⟨none, .store 44 (.tmp 79) (.tmp 78), none, [78, 79]⟩])
  (.reg [⟨(some 80), .move (.tmp 9), none, []⟩,
    ⟨(some 81), .binOp .add 3 (.tmp 80) (.const (.int .i64 1)) 3, none, [80]⟩,
    ⟨(some 9), .assign (.tmp 81), none, [81]⟩]))
  .skip))
  (.seq (.reg [⟨(some 82), .move (.tmp 10), none, []⟩,
    ⟨(some 83), .move (.tmp 82), none, [82]⟩,
    ⟨(some 84), .fieldAddr 32 (.tmp 5) 1, (some (83, true)), []⟩,
    ⟨(some 85), .load 30 (.tmp 84), (some (83, true)), [84]⟩,
    ⟨(some 86), .move (.tmp 12), (some (83, true)), []⟩,
    ⟨(some 87), .indexAddr 30 (.tmp 85) (.tmp 86), (some (83, true)), [85, 86]⟩,
    ⟨(some 88), .load 26 (.tmp 87), (some (83, true)), [87]⟩,
    ⟨(some 89), .binOp .neq 26 (.tmp 88) (.const (.int .u64 0)) 26, (some (83, true)), [88]⟩,
    ⟨(some 90), .pick (.tmp 83) (.tmp 89) (.const (.bool false)), none, [83, 89]⟩,
    ⟨(some 10), .assign (.tmp 90), none, [90]⟩])
  (.seq (.seq (.reg [⟨(some 13), .assign (.const (.int .i64 0)), none, []⟩])
  (.block 2 (.loop (.seq (.seq (.reg [⟨(some 91), .move (.tmp 13), none, []⟩,
    ⟨(some 92), .move (.tmp 12), none, []⟩,
    ⟨(some 93), .binOp .lss 3 (.tmp 91) (.tmp 92) 3, none, [91, 92]⟩])
  (.cond (.tmp 93) .skip
  (.exit 2)))
  (.seq (.block 3 (.drw [⟨(some 96), .move (.tmp 10), none, []⟩,
    ⟨(some 97), .move (.tmp 96), none, [96]⟩,
    ⟨(some 98), .fieldAddr 32 (.tmp 5) 1, (some (97, true)), []⟩,
    ⟨(some 99), .load 30 (.tmp 98), (some (97, true)), [98]⟩,
    ⟨(some 100), .move (.tmp 12), (some (97, true)), []⟩,
    ⟨(some 101), .indexAddr 30 (.tmp 99) (.tmp 100), (some (97, true)), [99, 100]⟩,
    ⟨(some 102), .load 26 (.tmp 101), (some (97, true)), [101]⟩,
    ⟨(some 103), .fieldAddr 32 (.tmp 5) 1, (some (97, true)), []⟩,
    ⟨(some 104), .load 30 (.tmp 103), (some (97, true)), [103]⟩,
    ⟨(some 105), .move (.tmp 13), (some (97, true)), []⟩,
    ⟨(some 106), .indexAddr 30 (.tmp 104) (.tmp 105), (some (97, true)), [104, 105]⟩,
    ⟨(some 107), .load 26 (.tmp 106), (some (97, true)), [106]⟩,
    ⟨(some 108), .binOp .neq 26 (.tmp 102) (.tmp 107) 26, (some (97, true)), [102, 107]⟩,
    ⟨(some 109), .pick (.tmp 97) (.tmp 108) (.const (.bool false)), none, [97, 108]⟩,
    ⟨(some 10), .assign (.tmp 109), none, [109]⟩] [0, 1, 3, 7, 3, 31, 63, 3, 131, 3, 899, 1923, 4095, 8191, 16383]))
  (.reg [⟨(some 94), .move (.tmp 13), none, []⟩,
    ⟨(some 95), .binOp .add 3 (.tmp 94) (.const (.int .i64 1)) 3, none, [94]⟩,
    ⟨(some 13), .assign (.tmp 95), none, [95]⟩]))))))
  (.seq (.reg [⟨(some 14), .assign (.const (.int .i64 0)), none, []⟩])
  (.seq (.seq (.reg [⟨(some 15), .assign (.const (.int .i64 0)), none, []⟩])
  (.block 4 (.loop (.seq (.seq (.reg [⟨(some 110), .move (.tmp 15), none, []⟩,
    ⟨(some 111), .fieldAddr 32 (.tmp 5) 0, none, []⟩,
    ⟨(some 112), .load 3 (.tmp 111), none, [111]⟩,
    ⟨(some 113), .binOp .lss 3 (.tmp 110) (.tmp 112) 3, none, [110, 112]⟩])
  (.cond (.tmp 113) .skip
  (.exit 4)))
  (.seq (.block 5 (.seq (.reg [⟨(some 116), .load 32 (.tmp 5), none, []⟩,
    ⟨(some 117), .move (.tmp 12), none, []⟩,
    ⟨(some 118), .move (.tmp 15), none, []⟩,
    ⟨(some 119), .call ⟨.value (.func 16), #[(.tmp 116), (.tmp 117), (.tmp 118)], #[32, 3, 3]⟩, none, [116, 117, 118]⟩])
  (.cond (.tmp 119) (.reg [⟨(some 120), .move (.tmp 14), none, []⟩,
    ⟨(some 121), .binOp .add 3 (.tmp 120) (.const (.int .i64 1)) 3, none, [120]⟩,
    ⟨(some 14), .assign (.tmp 121), none, [121]⟩])
  .skip)))
  (.reg [⟨(some 114), .move (.tmp 15), none, []⟩,
    ⟨(some 115), .binOp .add 3 (.tmp 114) (.const (.int .i64 1)) 3, none, [114]⟩,
    ⟨(some 15), .assign (.tmp 115), none, [115]⟩]))))))
  (.reg [⟨(some 122), .move (.tmp 11), none, []⟩,
    ⟨(some 123), .move (.tmp 122), none, [122]⟩,
    ⟨(some 124), .move (.tmp 14), (some (123, true)), []⟩,
    ⟨(some 125), .binOp .rem 3 (.tmp 124) (.const (.int .i64 2)) 3, (some (123, true)), [124]⟩,
    ⟨(some 126), .binOp .eql 3 (.tmp 125) (.const (.int .i64 1)) 3, (some (123, true)), [125]⟩,
    ⟨(some 127), .pick (.tmp 123) (.tmp 126) (.const (.bool false)), none, [123, 126]⟩,
    ⟨(some 11), .assign (.tmp 127), none, [127]⟩])))))))))
  (.reg [⟨(some 35), .move (.tmp 12), none, []⟩,
    ⟨(some 36), .binOp .add 3 (.tmp 35) (.const (.int .i64 1)) 3, none, [35]⟩,
    ⟨(some 12), .assign (.tmp 36), none, [36]⟩]))))))
  (.seq (.reg [⟨(some 129), .load 32 (.tmp 5), none, []⟩,
    ⟨(some 130), .move (.tmp 7), none, []⟩,
    ⟨(some 131), .move (.tmp 8), none, []⟩,
    ⟨(some 132), .call ⟨.value (.func 13), #[(.tmp 129), (.tmp 130), (.tmp 131), (.const (.int .u64 0))], #[32, 34, 34, 26]⟩, none, [129, 130, 131]⟩,
    ⟨(some 128), .move (.tmp 132), none, [132]⟩,
    ⟨(some 133), .extract (.tmp 128) 0, none, []⟩,
    ⟨(some 134), .extract (.tmp 128) 1, none, [128]⟩,
    ⟨(some 16), .assign (.tmp 133), none, [133]⟩,
    ⟨(some 17), .assign (.tmp 134), none, [134]⟩])
  (.seq (.seq (.reg [⟨(some 135), .move (.tmp 17), none, []⟩,
    ⟨(some 136), .binOp .neq 36 (.tmp 135) (.const (.int .i64 0)) 36, none, [135]⟩,
    ⟨(some 137), .move (.tmp 136), none, [136]⟩,
    ⟨(some 138), .move (.tmp 9), (some (137, false)), []⟩,
    ⟨(some 139), .binOp .eql 3 (.tmp 138) (.const (.int .i64 0)) 3, (some (137, false)), [138]⟩,
    ⟨(some 140), .move (.tmp 139), (some (137, false)), [139]⟩,
    ⟨(some 141), .move (.tmp 16), (some (140, true)), []⟩,
    ⟨(some 142), .call ⟨.builtin .len, #[(.tmp 141)], #[39]⟩, (some (140, true)), [141]⟩,
    ⟨(some 143), .binOp .gtr 3 (.tmp 142) (.const (.int .i64 0)) 3, (some (140, true)), [142]⟩,
    ⟨(some 144), .pick (.tmp 140) (.tmp 143) (.const (.bool false)), (some (137, false)), [140, 143]⟩,
    ⟨(some 145), .pick (.tmp 137) (.const (.bool true)) (.tmp 144), none, [137, 144]⟩])
  (.cond (.tmp 145) (.seq (.reg [⟨(some 4), .assign (.const (.bool false)), none, []⟩])
  .ret)
  .skip))
  (.seq (.seq (.reg [⟨(some 146), .move (.tmp 9), none, []⟩,
    ⟨(some 147), .binOp .eql 3 (.tmp 146) (.const (.int .i64 1)) 3, none, [146]⟩,
    ⟨(some 148), .move (.tmp 147), none, [147]⟩,
    ⟨(some 149), .move (.tmp 9), (some (148, false)), []⟩,
    ⟨(some 150), .binOp .eql 3 (.tmp 149) (.const (.int .i64 2)) 3, (some (148, false)), [149]⟩,
    ⟨(some 151), .pick (.tmp 148) (.const (.bool true)) (.tmp 150), none, [148, 150]⟩,
    ⟨(some 152), .move (.tmp 151), none, [151]⟩,
    ⟨(some 153), .move (.tmp 10), (some (152, true)), []⟩,
    ⟨(some 154), .pick (.tmp 152) (.tmp 153) (.const (.bool false)), none, [152, 153]⟩,
    ⟨(some 155), .move (.tmp 154), none, [154]⟩,
    ⟨(some 156), .move (.tmp 16), (some (155, true)), []⟩,
    ⟨(some 157), .call ⟨.builtin .len, #[(.tmp 156)], #[39]⟩, (some (155, true)), [156]⟩,
    ⟨(some 158), .binOp .eql 3 (.tmp 157) (.const (.int .i64 0)) 3, (some (155, true)), [157]⟩,
    ⟨(some 159), .pick (.tmp 155) (.tmp 158) (.const (.bool false)), none, [155, 158]⟩,
    ⟨(some 160), .move (.tmp 159), none, [159]⟩,
    ⟨(some 161), .move (.tmp 9), (some (160, false)), []⟩,
    ⟨(some 162), .binOp .rem 3 (.tmp 161) (.const (.int .i64 2)) 3, (some (160, false)), [161]⟩,
    ⟨(some 163), .binOp .eql 3 (.tmp 162) (.const (.int .i64 1)) 3, (some (160, false)), [162]⟩,
    ⟨(some 164), .move (.tmp 163), (some (160, false)), [163]⟩,
    ⟨(some 165), .move (.tmp 11), (some (164, true)), []⟩,
    ⟨(some 166), .pick (.tmp 164) (.tmp 165) (.const (.bool false)), (some (160, false)), [164, 165]⟩,
    ⟨(some 167), .move (.tmp 166), (some (160, false)), [166]⟩,
    ⟨(some 168), .move (.tmp 16), (some (167, true)), []⟩,
    ⟨(some 169), .call ⟨.builtin .len, #[(.tmp 168)], #[39]⟩, (some (167, true)), [168]⟩,
    ⟨(some 170), .binOp .eql 3 (.tmp 169) (.const (.int .i64 0)) 3, (some (167, true)), [169]⟩,
    ⟨(some 171), .pick (.tmp 167) (.tmp 170) (.const (.bool false)), (some (160, false)), [167, 170]⟩,
    ⟨(some 172), .pick (.tmp 160) (.const (.bool true)) (.tmp 171), none, [160, 171]⟩])
  (.cond (.tmp 172) (.seq (.reg [⟨(some 4), .assign (.const (.bool false)), none, []⟩])
  .ret)
  .skip))
  (.seq (.reg [⟨(some 173), .call ⟨.value (.func 9), #[], #[]⟩, none, []⟩,
    ⟨(some 4), .assign (.tmp 173), none, [173]⟩])
  .ret))))))))))))
theorem s5 : Stripped Try.prog 5 174 [.tmp 4] C5 := ⟨Try.f5, _, [[[0], [1], []], [[], [18], [19], [20]], [[], [22]], [[], [23], [], [24]], [[], [25], [26], [27]], [[], [28], [], [30], [29], [31]], [[]], [[], []], [[]], [[], [], [32, 33]], [[], [], [38], [39], [37, 40]], [[], [], [], [44], [], [45, 46], [47], [48], [42, 43], [49, 50]], [[], [], [], [], [53, 54], [55], [51, 52], [56, 57]], [[], [], [59], [60], [58, 61], [62], [], [64], [], [65, 66], [67], [68], [69], [63, 70]], [[], [], [], [], [74, 75], [76], [77], [72, 73], [78, 79]], [[], [80], [81]], [[], [82], [], [84], [], [85, 86], [87], [88], [83, 89], [90]], [[]], [[], [], [91, 92]], [[], [96], [], [98], [], [99, 100], [101], [], [103], [], [104, 105], [106], [102, 107], [97, 108], [109]], [[], [94], [95]], [[]], [[]], [[], [], [111], [110, 112]], [[], [], [], [116, 117, 118]], [[], [120], [121]], [[], [114], [115]], [[], [122], [], [124], [125], [123, 126], [127]], [[], [35], [36]], [[], [], [], [129, 130, 131], [132], [], [128], [133], [134]], [[], [135], [136], [], [138], [139], [], [141], [142], [140, 143], [137, 144]], [[]], [[], [146], [147], [], [149], [148, 150], [151], [], [152, 153], [154], [], [156], [157], [155, 158], [159], [], [161], [162], [163], [], [164, 165], [166], [], [168], [169], [167, 170], [160, 171]], [[]], [[], [173]]], [], Try.func5, rfl, by kernel_rfl, rfl, rfl, by kernel_rfl⟩
end Go.Proofs.Ytfcbahfdgopgfaa
