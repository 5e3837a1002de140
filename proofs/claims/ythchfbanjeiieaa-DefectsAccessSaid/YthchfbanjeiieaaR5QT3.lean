/-
  The stripped code of this seat's functions.
-/
import Derived.Test.YthchfbanjeiieaaR5QT1
set_option linter.unusedSimpArgs false
set_option linter.unusedVariables false
namespace Go.Proofs.Ythchfbanjeiieaa
open Go.Abs
/- probecard/probecardlaw38.DefectsPlay -/
def C3 : CC := (.seq (.reg [⟨(some 2), .box 24 (.tmp 0), none, [0]⟩,
    ⟨(some 4), .assign (.const (.bool false)), none, []⟩])
  (.seq (.seq (.reg [⟨(some 18), .move (.tmp 1), none, []⟩,
    ⟨(some 19), .call ⟨.builtin .len, #[(.tmp 18)], #[25]⟩, none, [18]⟩,
    ⟨(some 20), .binOp .gtr 3 (.tmp 19) (.const (.int .i64 100)) 3, none, [19]⟩])
  (.cond (.tmp 20) (.seq (.reg [⟨(some 21), .call ⟨.value (.func 9), #[], #[]⟩, none, []⟩,
    ⟨(some 4), .assign (.tmp 21), none, [21]⟩])
  .ret)
  .skip))
  (.seq (.reg [⟨(some 23), .load 24 (.tmp 2), none, []⟩,
    ⟨(some 24), .call ⟨.value (.func 10), #[(.tmp 23)], #[24]⟩, none, [23]⟩,
    ⟨(some 22), .move (.tmp 24), none, [24]⟩,
    ⟨(some 25), .extract (.tmp 22) 0, none, []⟩,
    ⟨(some 26), .extract (.tmp 22) 1, none, [22]⟩,
    ⟨(some 5), .assign (.tmp 25), none, [25]⟩,
    ⟨(some 6), .assign (.tmp 26), none, [26]⟩])
  (.seq (.reg [⟨(some 28), .load 24 (.tmp 2), none, []⟩,
    ⟨(some 29), .call ⟨.value (.func 11), #[(.tmp 28)], #[24]⟩, none, [28]⟩,
    ⟨(some 27), .move (.tmp 29), none, [29]⟩,
    ⟨(some 30), .extract (.tmp 27) 0, none, []⟩,
    ⟨(some 31), .extract (.tmp 27) 1, none, [27]⟩,
    ⟨(some 7), .alloc 33, none, []⟩,
    ⟨none, .store 33 (.tmp 7) (.tmp 30), none, [30]⟩,
    ⟨(some 8), .assign (.tmp 31), none, [31]⟩])
  (.seq (.reg [⟨(some 32), .fieldAddr 33 (.tmp 7) 0, none, []⟩,
    ⟨(some 33), .load 31 (.tmp 32), none, [32]⟩,
    ⟨(some 34), .convert 31 3 (.tmp 33), none, [33]⟩,
    ⟨(some 9), .assign (.tmp 34), none, [34]⟩])
  (.seq (.seq (.reg [⟨(some 35), .move (.tmp 8), none, []⟩,
    ⟨(some 36), .binOp .eql 3 (.tmp 35) (.const (.int .i64 0)) 3, none, [35]⟩])
  (.cond (.tmp 36) (.reg [⟨(some 9), .assign (.const (.int .i64 (-1))), none, []⟩])
  .skip))
  (.seq (.drw [⟨(some 37), .load 24 (.tmp 2), none, []⟩,
    ⟨(some 38), .call ⟨.value (.func 13), #[(.tmp 37)], #[24]⟩, none, [37]⟩,
    ⟨(some 39), .move (.tmp 9), none, []⟩,
    ⟨(some 40), .fieldAddr 33 (.tmp 7) 1, none, []⟩,
    ⟨(some 41), .load 3 (.tmp 40), none, [40]⟩,
    ⟨(some 42), .fieldAddr 33 (.tmp 7) 2, none, []⟩,
    ⟨(some 43), .load 3 (.tmp 42), none, [42]⟩,
    ⟨(some 44), .call ⟨.value (.func 12), #[(.tmp 38), (.tmp 39), (.tmp 41), (.tmp 43)], #[40, 3, 3, 3]⟩, none, [38, 39, 41, 43]⟩,
    ⟨(some 10), .alloc 38, none, []⟩,
    ⟨none, .store 38 (.tmp 10) (.tmp 44), none, [44]⟩] [0, 1, 0, 0, 8, 0, 32, 127, 0, 511])
  (.seq (.seq (.reg [⟨(some 45), .move (.tmp 6), none, []⟩,
    ⟨(some 46), .binOp .neq 28 (.tmp 45) (.const (.int .i64 0)) 28, none, [45]⟩])
  (.cond (.tmp 46) (.seq (.reg [⟨(some 4), .assign (.const (.bool false)), none, []⟩])
  .ret)
  .skip))
  (.seq (.seq (.reg [⟨(some 11), .assign (.const (.int .i64 0)), none, []⟩])
  (.block 0 (.loop (.seq (.seq (.reg [⟨(some 47), .move (.tmp 11), none, []⟩,
    ⟨(some 48), .move (.tmp 1), none, []⟩,
    ⟨(some 49), .call ⟨.builtin .len, #[(.tmp 48)], #[25]⟩, none, [48]⟩,
    ⟨(some 50), .binOp .lss 3 (.tmp 47) (.tmp 49) 3, none, [47, 49]⟩])
  (.cond (.tmp 50) .skip
  (.exit 0)))
  (.seq (.block 1 (.seq (.drw [⟨(some 53), .move (.tmp 1), none, []⟩,
    ⟨(some 54), .move (.tmp 11), none, []⟩,
    ⟨(some 55), .indexAddr 25 (.tmp 53) (.tmp 54), none, [53, 54]⟩,
    ⟨(some 56), .fieldAddr 43 (.tmp 55) 1, none, [55]⟩,
    ⟨(some 57), .load 5 (.tmp 56), none, [56]⟩,
    ⟨(some 58), .convert 5 3 (.tmp 57), none, [57]⟩,
    ⟨(some 59), .load 24 (.tmp 2), none, []⟩,
    ⟨(some 60), .call ⟨.value (.func 14), #[(.tmp 59)], #[24]⟩, none, [59]⟩,
    ⟨(some 61), .binOp .rem 3 (.tmp 58) (.tmp 60) 3, none, [58, 60]⟩,
    ⟨(some 12), .assign (.tmp 61), none, [61]⟩] [0, 0, 3, 7, 15, 31, 0, 64, 255, 511])
  (.seq (.reg [⟨(some 62), .move (.tmp 1), none, []⟩,
    ⟨(some 63), .move (.tmp 11), none, []⟩,
    ⟨(some 64), .indexAddr 25 (.tmp 62) (.tmp 63), none, [62, 63]⟩,
    ⟨(some 65), .fieldAddr 43 (.tmp 64) 2, none, [64]⟩,
    ⟨(some 66), .load 5 (.tmp 65), none, [65]⟩,
    ⟨(some 67), .binOp .rem 5 (.tmp 66) (.const (.int .u8 2)) 5, none, [66]⟩,
    ⟨(some 68), .convert 5 3 (.tmp 67), none, [67]⟩,
    ⟨(some 13), .assign (.tmp 68), none, [68]⟩])
  (.seq (.seq (.reg [⟨(some 69), .move (.tmp 1), none, []⟩,
    ⟨(some 70), .move (.tmp 11), none, []⟩,
    ⟨(some 71), .indexAddr 25 (.tmp 69) (.tmp 70), none, [69, 70]⟩,
    ⟨(some 72), .fieldAddr 43 (.tmp 71) 0, none, [71]⟩,
    ⟨(some 73), .load 4 (.tmp 72), none, [72]⟩])
  (.cond (.tmp 73) (.seq (.seq (.reg [⟨(some 74), .move (.tmp 5), none, []⟩,
    ⟨(some 75), .move (.tmp 12), none, []⟩,
    ⟨(some 76), .move (.tmp 13), none, []⟩,
    ⟨(some 77), .convert 3 46 (.tmp 76), none, [76]⟩,
    ⟨(some 78), .call ⟨.value (.func 15), #[(.tmp 74), (.tmp 75), (.tmp 77)], #[27, 3, 46]⟩, none, [74, 75, 77]⟩,
    ⟨(some 79), .binOp .neq 28 (.tmp 78) (.const (.int .i64 0)) 28, none, [78]⟩])
  (.cond (.tmp 79) (.seq (.reg [⟨(some 4), .assign (.const (.bool false)), none, []⟩])
  .ret)
  .skip))
  (.reg [⟨(some 80), .load 38 (.tmp 10), none, []⟩,
    ⟨(some 81), .move (.tmp 12), none, []⟩,
    ⟨(some 82), .move (.tmp 13), none, []⟩,
    ⟨(some 83), .call ⟨.value (.func 16), #[(.tmp 80), (.tmp 81), (.tmp 82)], #[38, 3, 3]⟩, none, [80, 81, 82]⟩,
    ⟨none, .store 38 (.tmp 10) (.tmp 83), none, [83]⟩]))
  .skip))
  (.seq (.reg [⟨(some 85), .move (.tmp 5), none, []⟩,
    ⟨(some 86), .move (.tmp 12), none, []⟩,
    ⟨(some 87), .call ⟨.value (.func 17), #[(.tmp 85), (.tmp 86)], #[27, 3]⟩, none, [85, 86]⟩,
    ⟨(some 84), .move (.tmp 87), none, [87]⟩,
    ⟨(some 88), .extract (.tmp 84) 0, none, []⟩,
    ⟨(some 89), .extract (.tmp 84) 1, none, [84]⟩,
    ⟨(some 14), .assign (.tmp 88), none, [88]⟩,
    ⟨(some 15), .assign (.tmp 89), none, [89]⟩])
  (.seq (.seq (.reg [⟨(some 90), .move (.tmp 15), none, []⟩,
    ⟨(some 91), .binOp .neq 28 (.tmp 90) (.const (.int .i64 0)) 28, none, [90]⟩,
    ⟨(some 92), .move (.tmp 91), none, [91]⟩,
    ⟨(some 93), .move (.tmp 14), (some (92, false)), []⟩,
    ⟨(some 94), .convert 46 3 (.tmp 93), (some (92, false)), [93]⟩,
    ⟨(some 95), .load 38 (.tmp 10), (some (92, false)), []⟩,
    ⟨(some 96), .move (.tmp 12), (some (92, false)), []⟩,
    ⟨(some 97), .call ⟨.value (.func 18), #[(.tmp 95), (.tmp 96)], #[38, 3]⟩, (some (92, false)), [95, 96]⟩,
    ⟨(some 98), .binOp .neq 3 (.tmp 94) (.tmp 97) 3, (some (92, false)), [94, 97]⟩,
    ⟨(some 99), .pick (.tmp 92) (.const (.bool true)) (.tmp 98), none, [92, 98]⟩])
  (.cond (.tmp 99) (.seq (.reg [⟨(some 4), .assign (.const (.bool false)), none, []⟩])
  .ret)
  .skip))
  (.seq (.reg [⟨(some 100), .move (.tmp 5), none, []⟩,
    ⟨(some 101), .call ⟨.value (.func 19), #[(.tmp 100)], #[27]⟩, none, [100]⟩,
    ⟨(some 16), .assign (.tmp 101), none, [101]⟩])
  (.seq (.seq (.reg [⟨(some 102), .move (.tmp 16), none, []⟩,
    ⟨(some 103), .call ⟨.builtin .len, #[(.tmp 102)], #[40]⟩, none, [102]⟩,
    ⟨(some 104), .fieldAddr 38 (.tmp 10) 0, none, []⟩,
    ⟨(some 105), .load 36 (.tmp 104), none, [104]⟩,
    ⟨(some 106), .call ⟨.builtin .len, #[(.tmp 105)], #[36]⟩, none, [105]⟩,
    ⟨(some 107), .binOp .neq 3 (.tmp 103) (.tmp 106) 3, none, [103, 106]⟩,
    ⟨(some 108), .move (.tmp 107), none, [107]⟩,
    ⟨(some 109), .move (.tmp 16), (some (108, false)), []⟩,
    ⟨(some 110), .call ⟨.builtin .cap, #[(.tmp 109)], #[40]⟩, (some (108, false)), [109]⟩,
    ⟨(some 111), .move (.tmp 16), (some (108, false)), []⟩,
    ⟨(some 112), .call ⟨.builtin .len, #[(.tmp 111)], #[40]⟩, (some (108, false)), [111]⟩,
    ⟨(some 113), .binOp .neq 3 (.tmp 110) (.tmp 112) 3, (some (108, false)), [110, 112]⟩,
    ⟨(some 114), .pick (.tmp 108) (.const (.bool true)) (.tmp 113), none, [108, 113]⟩])
  (.cond (.tmp 114) (.seq (.reg [⟨(some 4), .assign (.const (.bool false)), none, []⟩])
  .ret)
  .skip))
  (.seq (.reg [⟨(some 17), .assign (.const (.int .i64 0)), none, []⟩])
  (.block 2 (.loop (.seq (.seq (.reg [⟨(some 115), .move (.tmp 17), none, []⟩,
    ⟨(some 116), .move (.tmp 16), none, []⟩,
    ⟨(some 117), .call ⟨.builtin .len, #[(.tmp 116)], #[40]⟩, none, [116]⟩,
    ⟨(some 118), .binOp .lss 3 (.tmp 115) (.tmp 117) 3, none, [115, 117]⟩])
  (.cond (.tmp 118) .skip
  (.exit 2)))
  (.seq (.block 3 (.seq (.seq (.drw [⟨(some 121), .move (.tmp 16), none, []⟩,
    ⟨(some 122), .move (.tmp 17), none, []⟩,
    ⟨(some 123), .indexAddr 40 (.tmp 121) (.tmp 122), none, [121, 122]⟩,
    ⟨(some 124), .load 46 (.tmp 123), none, [123]⟩,
    ⟨(some 125), .convert 46 3 (.tmp 124), none, [124]⟩,
    ⟨(some 126), .fieldAddr 38 (.tmp 10) 0, none, []⟩,
    ⟨(some 127), .load 36 (.tmp 126), none, [126]⟩,
    ⟨(some 128), .move (.tmp 17), none, []⟩,
    ⟨(some 129), .indexAddr 36 (.tmp 127) (.tmp 128), none, [127, 128]⟩,
    ⟨(some 130), .load 3 (.tmp 129), none, [129]⟩,
    ⟨(some 131), .binOp .neq 3 (.tmp 125) (.tmp 130) 3, none, [125, 130]⟩] [0, 0, 3, 7, 15, 0, 32, 0, 224, 480, 1023])
  (.cond (.tmp 131) (.seq (.reg [⟨(some 4), .assign (.const (.bool false)), none, []⟩])
  .ret)
  .skip))
  (.reg [⟨(some 132), .move (.tmp 16), none, []⟩,
    ⟨(some 133), .move (.tmp 17), none, []⟩,
    ⟨(some 134), .indexAddr 40 (.tmp 132) (.tmp 133), none, [132, 133]⟩,
    ⟨none, .store 46 (.tmp 134) (.const (.int .u8 7)), none, [134]⟩])))
  (.reg [⟨(some 119), .move (.tmp 17), none, []⟩,
    ⟨(some 120), .binOp .add 3 (.tmp 119) (.const (.int .i64 1)) 3, none, [119]⟩,
    ⟨(some 17), .assign (.tmp 120), none, [120]⟩]))))))))))))))
  (.reg [⟨(some 51), .move (.tmp 11), none, []⟩,
    ⟨(some 52), .binOp .add 3 (.tmp 51) (.const (.int .i64 1)) 3, none, [51]⟩,
    ⟨(some 11), .assign (.tmp 52), none, [52]⟩]))))))
  (.seq (.reg [⟨(some 135), .call ⟨.value (.func 9), #[], #[]⟩, none, []⟩,
    ⟨(some 4), .assign (.tmp 135), none, [135]⟩])
  .ret))))))))))
theorem s3 : Stripped Try.prog 3 136 [.tmp 4] C3 := ⟨Try.f3, _, [[[0], []], [[], [18], [19]], [[], [21]], [[], [23], [24], [], [22], [25], [26]], [[], [28], [29], [], [27], [], [30], [31]], [[], [32], [33], [34]], [[], [35]], [[]], [[], [37], [], [], [40], [], [42], [38, 39, 41, 43], [], [44]], [[], [45]], [[]], [[]], [[], [], [48], [47, 49]], [[], [], [53, 54], [55], [56], [57], [], [59], [58, 60], [61]], [[], [], [62, 63], [64], [65], [66], [67], [68]], [[], [], [69, 70], [71], [72]], [[], [], [], [76], [74, 75, 77], [78]], [[]], [[], [], [], [80, 81, 82], [83]], [[], [], [85, 86], [87], [], [84], [88], [89]], [[], [90], [91], [], [93], [], [], [95, 96], [94, 97], [92, 98]], [[]], [[], [100], [101]], [[], [102], [], [104], [105], [103, 106], [107], [], [109], [], [111], [110, 112], [108, 113]], [[]], [[]], [[], [], [116], [115, 117]], [[], [], [121, 122], [123], [124], [], [126], [], [127, 128], [129], [125, 130]], [[]], [[], [], [132, 133], [134]], [[], [119], [120]], [[], [51], [52]], [[], [135]]], [], Try.func3, rfl, by kernel_rfl, rfl, rfl, by kernel_rfl⟩
/- probecard/probecardlaw38.DefectsCheck -/
def C4 : CC := (.seq (.reg [⟨(some 2), .box 33 (.tmp 0), none, [0]⟩,
    ⟨(some 4), .assign (.const (.bool false)), none, []⟩])
  (.seq (.reg [⟨(some 5), .assign (.const (.int .i64 0)), none, []⟩])
  (.seq (.seq (.reg [⟨(some 6), .move (.tmp 1), none, []⟩,
    ⟨(some 7), .binOp .lss 3 (.tmp 6) (.const (.int .i64 1)) 3, none, [6]⟩])
  (.cond (.tmp 7) (.reg [⟨(some 5), .assign (.const (.int .i64 1)), none, []⟩])
  (.seq (.reg [⟨(some 8), .move (.tmp 1), none, []⟩,
    ⟨(some 9), .binOp .gtr 3 (.tmp 8) (.const (.int .i64 1024)) 3, none, [8]⟩])
  (.cond (.tmp 9) (.reg [⟨(some 5), .assign (.const (.int .i64 3)), none, []⟩])
  (.seq (.reg [⟨(some 10), .fieldAddr 33 (.tmp 2) 0, none, []⟩,
    ⟨(some 11), .load 31 (.tmp 10), none, [10]⟩,
    ⟨(some 12), .convert 31 3 (.tmp 11), none, [11]⟩,
    ⟨(some 13), .fieldAddr 33 (.tmp 2) 1, none, []⟩,
    ⟨(some 14), .load 3 (.tmp 13), none, [13]⟩,
    ⟨(some 15), .fieldAddr 33 (.tmp 2) 2, none, []⟩,
    ⟨(some 16), .load 3 (.tmp 15), none, [15]⟩,
    ⟨(some 17), .move (.tmp 1), none, []⟩,
    ⟨(some 18), .call ⟨.value (.func 20), #[(.tmp 12), (.tmp 14), (.tmp 16), (.tmp 17)], #[3, 3, 3, 3]⟩, none, [12, 14, 16, 17]⟩,
    ⟨(some 19), .unOp .not 4 (.tmp 18), none, [18]⟩])
  (.cond (.tmp 19) (.reg [⟨(some 5), .assign (.const (.int .i64 1)), none, []⟩])
  .skip))))))
  (.seq (.drw [⟨(some 20), .load 33 (.tmp 2), none, []⟩,
    ⟨(some 21), .move (.tmp 1), none, []⟩,
    ⟨(some 22), .call ⟨.value (.func 21), #[(.tmp 20), (.tmp 21)], #[33, 3]⟩, none, [20, 21]⟩,
    ⟨(some 23), .move (.tmp 5), none, []⟩,
    ⟨(some 24), .binOp .eql 28 (.tmp 22) (.tmp 23) 28, none, [22, 23]⟩,
    ⟨(some 25), .move (.tmp 24), none, [24]⟩,
    ⟨(some 26), .fieldAddr 33 (.tmp 2) 0, (some (25, true)), []⟩,
    ⟨(some 27), .load 31 (.tmp 26), (some (25, true)), [26]⟩,
    ⟨(some 28), .call ⟨.value (.func 22), #[(.tmp 27)], #[31]⟩, (some (25, true)), [27]⟩,
    ⟨(some 29), .fieldAddr 33 (.tmp 2) 0, (some (25, true)), []⟩,
    ⟨(some 30), .load 31 (.tmp 29), (some (25, true)), [29]⟩,
    ⟨(some 31), .binOp .lss 31 (.tmp 30) (.const (.int .u8 4)) 31, (some (25, true)), [30]⟩,
    ⟨(some 32), .move (.tmp 31), (some (25, true)), [31]⟩,
    ⟨(some 33), .fieldAddr 33 (.tmp 2) 0, (some (32, false)), []⟩,
    ⟨(some 34), .load 31 (.tmp 33), (some (32, false)), [33]⟩,
    ⟨(some 35), .binOp .eql 31 (.tmp 34) (.const (.int .u8 14)) 31, (some (32, false)), [34]⟩,
    ⟨(some 36), .pick (.tmp 32) (.const (.bool true)) (.tmp 35), (some (25, true)), [32, 35]⟩,
    ⟨(some 37), .move (.tmp 36), (some (25, true)), [36]⟩,
    ⟨(some 38), .fieldAddr 33 (.tmp 2) 0, (some (37, false)), []⟩,
    ⟨(some 39), .load 31 (.tmp 38), (some (37, false)), [38]⟩,
    ⟨(some 40), .binOp .eql 31 (.tmp 39) (.const (.int .u8 15)) 31, (some (37, false)), [39]⟩,
    ⟨(some 41), .pick (.tmp 37) (.const (.bool true)) (.tmp 40), (some (25, true)), [37, 40]⟩,
    ⟨(some 42), .binOp .eql 4 (.tmp 28) (.tmp 41) 4, (some (25, true)), [28, 41]⟩,
    ⟨(some 43), .pick (.tmp 25) (.tmp 42) (.const (.bool false)), none, [25, 42]⟩,
    ⟨(some 44), .move (.tmp 43), none, [43]⟩,
    ⟨(some 45), .call ⟨.value (.func 9), #[], #[]⟩, (some (44, true)), []⟩,
    ⟨(some 46), .pick (.tmp 44) (.tmp 45) (.const (.bool false)), none, [44, 45]⟩,
    ⟨(some 4), .assign (.tmp 46), none, [46]⟩] [0, 0, 3, 0, 15, 31, 63, 127, 255, 63, 575, 1599, 4095, 8191, 16383, 32767, 65535, 131071, 262143, 524287, 1048575, 2097151, 4194303, 8388607, 16777215, 33554431, 67108863, 134217727])
  .ret))))
theorem s4 : Stripped Try.prog 4 47 [.tmp 4] C4 := ⟨Try.f4, _, [[[0], []], [[]], [[], [6]], [[]], [[], [8]], [[]], [[], [10], [11], [], [13], [], [15], [], [12, 14, 16, 17], [18]], [[]], [[], [], [20, 21], [], [22, 23], [24], [], [26], [27], [], [29], [30], [31], [], [33], [34], [32, 35], [36], [], [38], [39], [37, 40], [28, 41], [25, 42], [43], [], [44, 45], [46]]], [], Try.func4, rfl, by kernel_rfl, rfl, rfl, by kernel_rfl⟩
/- probecard/probecardlaw38.DefectsAccess -/
def C5 : CC := (.seq (.reg [⟨(some 3), .box 24 (.tmp 0), none, [0]⟩,
    ⟨(some 6), .assign (.const (.bool false)), none, []⟩])
  (.seq (.reg [⟨(some 23), .load 24 (.tmp 3), none, []⟩,
    ⟨(some 24), .call ⟨.value (.func 10), #[(.tmp 23)], #[24]⟩, none, [23]⟩,
    ⟨(some 22), .move (.tmp 24), none, [24]⟩,
    ⟨(some 25), .extract (.tmp 22) 0, none, []⟩,
    ⟨(some 26), .extract (.tmp 22) 1, none, [22]⟩,
    ⟨(some 7), .assign (.tmp 25), none, [25]⟩,
    ⟨(some 8), .assign (.tmp 26), none, [26]⟩])
  (.seq (.seq (.reg [⟨(some 27), .move (.tmp 8), none, []⟩,
    ⟨(some 28), .binOp .neq 28 (.tmp 27) (.const (.int .i64 0)) 28, none, [27]⟩])
  (.cond (.tmp 28) (.seq (.reg [⟨(some 6), .assign (.const (.bool false)), none, []⟩])
  .ret)
  .skip))
  (.seq (.reg [⟨(some 29), .move (.tmp 7), none, []⟩,
    ⟨(some 30), .call ⟨.value (.func 19), #[(.tmp 29)], #[27]⟩, none, [29]⟩,
    ⟨(some 9), .assign (.tmp 30), none, [30]⟩])
  (.seq (.reg [⟨(some 31), .move (.tmp 1), none, []⟩,
    ⟨(some 32), .binOp .lss 3 (.tmp 31) (.const (.int .i64 0)) 3, none, [31]⟩,
    ⟨(some 33), .move (.tmp 32), none, [32]⟩,
    ⟨(some 34), .move (.tmp 1), (some (33, false)), []⟩,
    ⟨(some 35), .load 24 (.tmp 3), (some (33, false)), []⟩,
    ⟨(some 36), .call ⟨.value (.func 14), #[(.tmp 35)], #[24]⟩, (some (33, false)), [35]⟩,
    ⟨(some 37), .binOp .geq 3 (.tmp 34) (.tmp 36) 3, (some (33, false)), [34, 36]⟩,
    ⟨(some 38), .pick (.tmp 33) (.const (.bool true)) (.tmp 37), none, [33, 37]⟩,
    ⟨(some 10), .assign (.tmp 38), none, [38]⟩])
  (.seq (.reg [⟨(some 40), .move (.tmp 7), none, []⟩,
    ⟨(some 41), .move (.tmp 1), none, []⟩,
    ⟨(some 42), .call ⟨.value (.func 17), #[(.tmp 40), (.tmp 41)], #[27, 3]⟩, none, [40, 41]⟩,
    ⟨(some 39), .move (.tmp 42), none, [42]⟩,
    ⟨(some 43), .extract (.tmp 39) 0, none, []⟩,
    ⟨(some 44), .extract (.tmp 39) 1, none, [39]⟩,
    ⟨(some 11), .assign (.tmp 43), none, [43, 11]⟩,
    ⟨(some 12), .assign (.tmp 44), none, [44]⟩])
  (.seq (.seq (.reg [⟨(some 45), .move (.tmp 12), none, []⟩,
    ⟨(some 46), .binOp .eql 28 (.tmp 45) (.const (.int .i64 1)) 28, none, [45]⟩,
    ⟨(some 47), .move (.tmp 10), none, []⟩,
    ⟨(some 48), .binOp .neq 4 (.tmp 46) (.tmp 47) 4, none, [46, 47]⟩,
    ⟨(some 49), .move (.tmp 48), none, [48]⟩,
    ⟨(some 50), .move (.tmp 12), (some (49, false)), []⟩,
    ⟨(some 51), .binOp .neq 28 (.tmp 50) (.const (.int .i64 0)) 28, (some (49, false)), [50]⟩,
    ⟨(some 52), .move (.tmp 51), (some (49, false)), [51]⟩,
    ⟨(some 53), .move (.tmp 12), (some (52, true)), []⟩,
    ⟨(some 54), .binOp .neq 28 (.tmp 53) (.const (.int .i64 1)) 28, (some (52, true)), [53]⟩,
    ⟨(some 55), .pick (.tmp 52) (.tmp 54) (.const (.bool false)), (some (49, false)), [52, 54]⟩,
    ⟨(some 56), .pick (.tmp 49) (.const (.bool true)) (.tmp 55), none, [49, 55]⟩])
  (.cond (.tmp 56) (.seq (.reg [⟨(some 6), .assign (.const (.bool false)), none, []⟩])
  .ret)
  .skip))
  (.seq (.reg [⟨(some 57), .move (.tmp 7), none, []⟩,
    ⟨(some 58), .move (.tmp 1), none, []⟩,
    ⟨(some 59), .move (.tmp 2), none, []⟩,
    ⟨(some 60), .call ⟨.value (.func 15), #[(.tmp 57), (.tmp 58), (.tmp 59)], #[27, 3, 46]⟩, none, [57, 58, 59]⟩,
    ⟨(some 13), .assign (.tmp 60), none, [60]⟩])
  (.seq (.seq (.reg [⟨(some 61), .move (.tmp 13), none, []⟩,
    ⟨(some 62), .binOp .eql 28 (.tmp 61) (.const (.int .i64 1)) 28, none, [61]⟩,
    ⟨(some 63), .move (.tmp 10), none, []⟩,
    ⟨(some 64), .move (.tmp 63), none, [63]⟩,
    ⟨(some 65), .move (.tmp 2), (some (64, false)), []⟩,
    ⟨(some 66), .binOp .gtr 5 (.tmp 65) (.const (.int .u8 1)) 5, (some (64, false)), [65]⟩,
    ⟨(some 67), .pick (.tmp 64) (.const (.bool true)) (.tmp 66), none, [64, 66]⟩,
    ⟨(some 68), .binOp .neq 4 (.tmp 62) (.tmp 67) 4, none, [62, 67]⟩,
    ⟨(some 69), .move (.tmp 68), none, [68]⟩,
    ⟨(some 70), .move (.tmp 13), (some (69, false)), []⟩,
    ⟨(some 71), .binOp .neq 28 (.tmp 70) (.const (.int .i64 0)) 28, (some (69, false)), [70]⟩,
    ⟨(some 72), .move (.tmp 71), (some (69, false)), [71]⟩,
    ⟨(some 73), .move (.tmp 13), (some (72, true)), []⟩,
    ⟨(some 74), .binOp .neq 28 (.tmp 73) (.const (.int .i64 1)) 28, (some (72, true)), [73]⟩,
    ⟨(some 75), .pick (.tmp 72) (.tmp 74) (.const (.bool false)), (some (69, false)), [72, 74]⟩,
    ⟨(some 76), .pick (.tmp 69) (.const (.bool true)) (.tmp 75), none, [69, 75]⟩])
  (.cond (.tmp 76) (.seq (.reg [⟨(some 6), .assign (.const (.bool false)), none, []⟩])
  .ret)
  .skip))
  (.seq (.reg [⟨(some 77), .move (.tmp 7), none, []⟩,
    ⟨(some 78), .call ⟨.value (.func 19), #[(.tmp 77)], #[27]⟩, none, [77]⟩,
    ⟨(some 14), .assign (.tmp 78), none, [78]⟩])
  (.seq (.seq (.reg [⟨(some 15), .assign (.const (.int .i64 0)), none, []⟩])
  (.block 0 (.loop (.seq (.seq (.reg [⟨(some 79), .move (.tmp 13), none, []⟩,
    ⟨(some 80), .binOp .neq 28 (.tmp 79) (.const (.int .i64 0)) 28, none, [79]⟩,
    ⟨(some 81), .move (.tmp 80), none, [80]⟩,
    ⟨(some 82), .move (.tmp 15), (some (81, true)), []⟩,
    ⟨(some 83), .move (.tmp 9), (some (81, true)), []⟩,
    ⟨(some 84), .call ⟨.builtin .len, #[(.tmp 83)], #[40]⟩, (some (81, true)), [83]⟩,
    ⟨(some 85), .binOp .lss 3 (.tmp 82) (.tmp 84) 3, (some (81, true)), [82, 84]⟩,
    ⟨(some 86), .pick (.tmp 81) (.tmp 85) (.const (.bool false)), none, [81, 85]⟩,
    ⟨(some 87), .move (.tmp 86), none, [86]⟩,
    ⟨(some 88), .move (.tmp 15), (some (87, true)), []⟩,
    ⟨(some 89), .move (.tmp 14), (some (87, true)), []⟩,
    ⟨(some 90), .call ⟨.builtin .len, #[(.tmp 89)], #[40]⟩, (some (87, true)), [89]⟩,
    ⟨(some 91), .binOp .lss 3 (.tmp 88) (.tmp 90) 3, (some (87, true)), [88, 90]⟩,
    ⟨(some 92), .pick (.tmp 87) (.tmp 91) (.const (.bool false)), none, [87, 91]⟩])
  (.cond (.tmp 92) .skip
  (.exit 0)))
  (.seq (.block 1 (.seq (.drw [⟨(some 95), .move (.tmp 9), none, []⟩,
    ⟨(some 96), .move (.tmp 15), none, []⟩,
    ⟨(some 97), .indexAddr 40 (.tmp 95) (.tmp 96), none, [95, 96]⟩,
    ⟨(some 98), .load 46 (.tmp 97), none, [97]⟩,
    ⟨(some 99), .move (.tmp 14), none, []⟩,
    ⟨(some 100), .move (.tmp 15), none, []⟩,
    ⟨(some 101), .indexAddr 40 (.tmp 99) (.tmp 100), none, [99, 100]⟩,
    ⟨(some 102), .load 46 (.tmp 101), none, [101]⟩,
    ⟨(some 103), .binOp .neq 46 (.tmp 98) (.tmp 102) 46, none, [98, 102]⟩] [0, 0, 3, 7, 0, 0, 48, 112, 255])
  (.cond (.tmp 103) (.seq (.reg [⟨(some 6), .assign (.const (.bool false)), none, []⟩])
  .ret)
  .skip)))
  (.reg [⟨(some 93), .move (.tmp 15), none, []⟩,
    ⟨(some 94), .binOp .add 3 (.tmp 93) (.const (.int .i64 1)) 3, none, [93]⟩,
    ⟨(some 15), .assign (.tmp 94), none, [94]⟩]))))))
  (.seq (.reg [⟨(some 16), .assign (.const (.pointer none)), none, []⟩])
  (.seq (.reg [⟨(some 17), .alloc 57, none, []⟩])
  (.seq (.reg [⟨(some 105), .move (.tmp 16), none, []⟩,
    ⟨(some 106), .move (.tmp 1), none, []⟩,
    ⟨(some 107), .call ⟨.value (.func 17), #[(.tmp 105), (.tmp 106)], #[27, 3]⟩, none, [105, 106]⟩,
    ⟨(some 104), .move (.tmp 107), none, [107]⟩,
    ⟨(some 108), .extract (.tmp 104) 0, none, []⟩,
    ⟨(some 109), .extract (.tmp 104) 1, none, [104]⟩,
    ⟨(some 18), .assign (.tmp 108), none, [108, 18]⟩,
    ⟨(some 19), .assign (.tmp 109), none, [109]⟩])
  (.seq (.reg [⟨(some 111), .move (.tmp 1), none, []⟩,
    ⟨(some 112), .call ⟨.value (.func 17), #[(.tmp 17), (.tmp 111)], #[57, 3]⟩, none, [111]⟩,
    ⟨(some 110), .move (.tmp 112), none, [112]⟩,
    ⟨(some 113), .extract (.tmp 110) 0, none, []⟩,
    ⟨(some 114), .extract (.tmp 110) 1, none, [110]⟩,
    ⟨(some 20), .assign (.tmp 113), none, [113, 20]⟩,
    ⟨(some 21), .assign (.tmp 114), none, [114]⟩])
  (.seq (.reg [⟨(some 115), .move (.tmp 9), none, []⟩,
    ⟨(some 116), .call ⟨.builtin .len, #[(.tmp 115)], #[40]⟩, none, [115]⟩,
    ⟨(some 117), .load 24 (.tmp 3), none, []⟩,
    ⟨(some 118), .call ⟨.value (.func 14), #[(.tmp 117)], #[24]⟩, none, [117]⟩,
    ⟨(some 119), .binOp .eql 3 (.tmp 116) (.tmp 118) 3, none, [116, 118]⟩,
    ⟨(some 120), .move (.tmp 119), none, [119]⟩,
    ⟨(some 121), .move (.tmp 14), (some (120, true)), []⟩,
    ⟨(some 122), .call ⟨.builtin .len, #[(.tmp 121)], #[40]⟩, (some (120, true)), [121]⟩,
    ⟨(some 123), .move (.tmp 9), (some (120, true)), []⟩,
    ⟨(some 124), .call ⟨.builtin .len, #[(.tmp 123)], #[40]⟩, (some (120, true)), [123]⟩,
    ⟨(some 125), .binOp .eql 3 (.tmp 122) (.tmp 124) 3, (some (120, true)), [122, 124]⟩,
    ⟨(some 126), .pick (.tmp 120) (.tmp 125) (.const (.bool false)), none, [120, 125]⟩,
    ⟨(some 127), .move (.tmp 126), none, [126]⟩,
    ⟨(some 128), .move (.tmp 19), (some (127, true)), []⟩,
    ⟨(some 129), .binOp .eql 28 (.tmp 128) (.const (.int .i64 2)) 28, (some (127, true)), [128]⟩,
    ⟨(some 130), .pick (.tmp 127) (.tmp 129) (.const (.bool false)), none, [127, 129]⟩,
    ⟨(some 131), .move (.tmp 130), none, [130]⟩,
    ⟨(some 132), .move (.tmp 21), (some (131, true)), []⟩,
    ⟨(some 133), .binOp .eql 28 (.tmp 132) (.const (.int .i64 2)) 28, (some (131, true)), [132]⟩,
    ⟨(some 134), .pick (.tmp 131) (.tmp 133) (.const (.bool false)), none, [131, 133]⟩,
    ⟨(some 135), .move (.tmp 134), none, [134]⟩,
    ⟨(some 136), .move (.tmp 16), (some (135, true)), []⟩,
    ⟨(some 137), .move (.tmp 1), (some (135, true)), []⟩,
    ⟨(some 138), .call ⟨.value (.func 15), #[(.tmp 136), (.tmp 137), (.const (.int .u8 0))], #[27, 3, 46]⟩, (some (135, true)), [136, 137]⟩,
    ⟨(some 139), .binOp .eql 28 (.tmp 138) (.const (.int .i64 2)) 28, (some (135, true)), [138]⟩,
    ⟨(some 140), .pick (.tmp 135) (.tmp 139) (.const (.bool false)), none, [135, 139]⟩,
    ⟨(some 141), .move (.tmp 140), none, [140]⟩,
    ⟨(some 142), .move (.tmp 1), (some (141, true)), []⟩,
    ⟨(some 143), .call ⟨.value (.func 15), #[(.tmp 17), (.tmp 142), (.const (.int .u8 0))], #[57, 3, 46]⟩, (some (141, true)), [142]⟩,
    ⟨(some 144), .binOp .eql 28 (.tmp 143) (.const (.int .i64 2)) 28, (some (141, true)), [143]⟩,
    ⟨(some 145), .pick (.tmp 141) (.tmp 144) (.const (.bool false)), none, [141, 144]⟩,
    ⟨(some 146), .move (.tmp 145), none, [145]⟩,
    ⟨(some 147), .move (.tmp 16), (some (146, true)), []⟩,
    ⟨(some 148), .call ⟨.value (.func 19), #[(.tmp 147)], #[27]⟩, (some (146, true)), [147]⟩,
    ⟨(some 149), .call ⟨.builtin .len, #[(.tmp 148)], #[40]⟩, (some (146, true)), [148]⟩,
    ⟨(some 150), .call ⟨.value (.func 19), #[(.tmp 17)], #[57]⟩, (some (146, true)), []⟩,
    ⟨(some 151), .call ⟨.builtin .len, #[(.tmp 150)], #[40]⟩, (some (146, true)), [150]⟩,
    ⟨(some 152), .binOp .add 3 (.tmp 149) (.tmp 151) 3, (some (146, true)), [149, 151]⟩,
    ⟨(some 153), .binOp .eql 3 (.tmp 152) (.const (.int .i64 0)) 3, (some (146, true)), [152]⟩,
    ⟨(some 154), .pick (.tmp 146) (.tmp 153) (.const (.bool false)), none, [146, 153]⟩,
    ⟨(some 155), .move (.tmp 154), none, [154]⟩,
    ⟨(some 156), .call ⟨.value (.func 9), #[], #[]⟩, (some (155, true)), []⟩,
    ⟨(some 157), .pick (.tmp 155) (.tmp 156) (.const (.bool false)), none, [155, 156]⟩,
    ⟨(some 6), .assign (.tmp 157), none, [157]⟩])
  .ret))))))))))))))))
theorem s5 : Stripped Try.prog 5 158 [.tmp 6] C5 := ⟨Try.f5, _, [[[0], []], [[], [23], [24], [], [22], [25], [26]], [[], [27]], [[]], [[], [29], [30]], [[], [31], [32], [], [], [35], [34, 36], [33, 37], [38]], [[], [], [40, 41], [42], [], [39], [43, 11], [44]], [[], [45], [], [46, 47], [48], [], [50], [51], [], [53], [52, 54], [49, 55]], [[]], [[], [], [], [57, 58, 59], [60]], [[], [61], [], [63], [], [65], [64, 66], [62, 67], [68], [], [70], [71], [], [73], [72, 74], [69, 75]], [[]], [[], [77], [78]], [[]], [[], [79], [80], [], [], [83], [82, 84], [81, 85], [86], [], [], [89], [88, 90], [87, 91]], [[], [], [95, 96], [97], [], [], [99, 100], [101], [98, 102]], [[]], [[], [93], [94]], [[]], [[]], [[], [], [105, 106], [107], [], [104], [108, 18], [109]], [[], [111], [112], [], [110], [113, 20], [114]], [[], [115], [], [117], [116, 118], [119], [], [121], [], [123], [122, 124], [120, 125], [126], [], [128], [127, 129], [130], [], [132], [131, 133], [134], [], [], [136, 137], [138], [135, 139], [140], [], [142], [143], [141, 144], [145], [], [147], [148], [], [150], [149, 151], [152], [146, 153], [154], [], [155, 156], [157]]], [], Try.func5, rfl, by kernel_rfl, rfl, rfl, by kernel_rfl⟩
/- probecard/probecardlaw38.DefectsApart -/
def C6 : CC := (.seq (.reg [⟨(some 2), .box 24 (.tmp 0), none, [0]⟩,
    ⟨(some 4), .assign (.const (.bool false)), none, []⟩])
  (.seq (.seq (.reg [⟨(some 17), .move (.tmp 1), none, []⟩,
    ⟨(some 18), .call ⟨.builtin .len, #[(.tmp 17)], #[25]⟩, none, [17]⟩,
    ⟨(some 19), .binOp .gtr 3 (.tmp 18) (.const (.int .i64 100)) 3, none, [18]⟩])
  (.cond (.tmp 19) (.seq (.reg [⟨(some 20), .call ⟨.value (.func 9), #[], #[]⟩, none, []⟩,
    ⟨(some 4), .assign (.tmp 20), none, [20]⟩])
  .ret)
  .skip))
  (.seq (.reg [⟨(some 22), .load 24 (.tmp 2), none, []⟩,
    ⟨(some 23), .call ⟨.value (.func 10), #[(.tmp 22)], #[24]⟩, none, [22]⟩,
    ⟨(some 21), .move (.tmp 23), none, [23]⟩,
    ⟨(some 24), .extract (.tmp 21) 0, none, []⟩,
    ⟨(some 25), .extract (.tmp 21) 1, none, [21]⟩,
    ⟨(some 5), .assign (.tmp 24), none, [24]⟩,
    ⟨(some 6), .assign (.tmp 25), none, [25]⟩])
  (.seq (.reg [⟨(some 27), .load 24 (.tmp 2), none, []⟩,
    ⟨(some 28), .call ⟨.value (.func 11), #[(.tmp 27)], #[24]⟩, none, [27]⟩,
    ⟨(some 26), .move (.tmp 28), none, [28]⟩,
    ⟨(some 29), .extract (.tmp 26) 0, none, []⟩,
    ⟨(some 30), .extract (.tmp 26) 1, none, [26]⟩,
    ⟨(some 7), .alloc 33, none, []⟩,
    ⟨none, .store 33 (.tmp 7) (.tmp 29), none, [29]⟩,
    ⟨(some 8), .assign (.tmp 30), none, [30]⟩])
  (.seq (.seq (.reg [⟨(some 31), .move (.tmp 6), none, []⟩,
    ⟨(some 32), .binOp .neq 28 (.tmp 31) (.const (.int .i64 0)) 28, none, [31]⟩])
  (.cond (.tmp 32) (.seq (.reg [⟨(some 4), .assign (.const (.bool false)), none, []⟩])
  .ret)
  .skip))
  (.seq (.reg [⟨(some 33), .load 24 (.tmp 2), none, []⟩,
    ⟨(some 34), .call ⟨.value (.func 13), #[(.tmp 33)], #[24]⟩, none, [33]⟩,
    ⟨(some 9), .assign (.tmp 34), none, [34]⟩])
  (.seq (.seq (.reg [⟨(some 10), .assign (.const (.int .i64 0)), none, []⟩])
  (.block 0 (.loop (.seq (.seq (.reg [⟨(some 35), .move (.tmp 10), none, []⟩,
    ⟨(some 36), .move (.tmp 1), none, []⟩,
    ⟨(some 37), .call ⟨.builtin .len, #[(.tmp 36)], #[25]⟩, none, [36]⟩,
    ⟨(some 38), .binOp .lss 3 (.tmp 35) (.tmp 37) 3, none, [35, 37]⟩])
  (.cond (.tmp 38) .skip
  (.exit 0)))
  (.seq (.block 1 (.seq (.drw [⟨(some 41), .move (.tmp 1), none, []⟩,
    ⟨(some 42), .move (.tmp 10), none, []⟩,
    ⟨(some 43), .indexAddr 25 (.tmp 41) (.tmp 42), none, [41, 42]⟩,
    ⟨(some 44), .fieldAddr 43 (.tmp 43) 1, none, [43]⟩,
    ⟨(some 45), .load 5 (.tmp 44), none, [44]⟩,
    ⟨(some 46), .convert 5 3 (.tmp 45), none, [45]⟩,
    ⟨(some 47), .load 24 (.tmp 2), none, []⟩,
    ⟨(some 48), .call ⟨.value (.func 14), #[(.tmp 47)], #[24]⟩, none, [47]⟩,
    ⟨(some 49), .binOp .rem 3 (.tmp 46) (.tmp 48) 3, none, [46, 48]⟩,
    ⟨(some 11), .assign (.tmp 49), none, [49]⟩] [0, 0, 3, 7, 15, 31, 0, 64, 255, 511])
  (.seq (.reg [⟨(some 50), .move (.tmp 1), none, []⟩,
    ⟨(some 51), .move (.tmp 10), none, []⟩,
    ⟨(some 52), .indexAddr 25 (.tmp 50) (.tmp 51), none, [50, 51]⟩,
    ⟨(some 53), .fieldAddr 43 (.tmp 52) 2, none, [52]⟩,
    ⟨(some 54), .load 5 (.tmp 53), none, [53]⟩,
    ⟨(some 55), .binOp .rem 5 (.tmp 54) (.const (.int .u8 2)) 5, none, [54]⟩,
    ⟨(some 12), .assign (.tmp 55), none, [55]⟩])
  (.seq (.reg [⟨(some 56), .move (.tmp 5), none, []⟩,
    ⟨(some 57), .move (.tmp 11), none, []⟩,
    ⟨(some 58), .move (.tmp 12), none, []⟩,
    ⟨(some 59), .call ⟨.value (.func 15), #[(.tmp 56), (.tmp 57), (.tmp 58)], #[27, 3, 46]⟩, none, [56, 57, 58, 59]⟩])
  (.seq (.reg [⟨(some 60), .move (.tmp 9), none, []⟩,
    ⟨(some 61), .move (.tmp 11), none, []⟩,
    ⟨(some 62), .move (.tmp 12), none, []⟩,
    ⟨(some 63), .indexAddr 40 (.tmp 60) (.tmp 61), none, [60, 61]⟩,
    ⟨none, .store 46 (.tmp 63) (.tmp 62), none, [62, 63]⟩])
  (.seq (.reg [⟨(some 13), .assign (.const (.int .i64 0)), none, []⟩])
  (.block 2 (.loop (.seq (.seq (.reg [⟨(some 64), .move (.tmp 13), none, []⟩,
    ⟨(some 65), .move (.tmp 9), none, []⟩,
    ⟨(some 66), .call ⟨.builtin .len, #[(.tmp 65)], #[40]⟩, none, [65]⟩,
    ⟨(some 67), .binOp .lss 3 (.tmp 64) (.tmp 66) 3, none, [64, 66]⟩])
  (.cond (.tmp 67) .skip
  (.exit 2)))
  (.seq (.block 3 (.seq (.reg [⟨(some 71), .move (.tmp 5), none, []⟩,
    ⟨(some 72), .move (.tmp 13), none, []⟩,
    ⟨(some 73), .call ⟨.value (.func 17), #[(.tmp 71), (.tmp 72)], #[27, 3]⟩, none, [71, 72]⟩,
    ⟨(some 70), .move (.tmp 73), none, [73]⟩,
    ⟨(some 74), .extract (.tmp 70) 0, none, []⟩,
    ⟨(some 75), .extract (.tmp 70) 1, none, [70]⟩,
    ⟨(some 14), .assign (.tmp 74), none, [74]⟩,
    ⟨(some 15), .assign (.tmp 75), none, [75]⟩])
  (.seq (.reg [⟨(some 76), .fieldAddr 33 (.tmp 7) 0, none, []⟩,
    ⟨(some 77), .load 31 (.tmp 76), none, [76]⟩,
    ⟨(some 78), .call ⟨.value (.func 22), #[(.tmp 77)], #[31]⟩, none, [77]⟩,
    ⟨(some 79), .unOp .not 4 (.tmp 78), none, [78]⟩,
    ⟨(some 80), .move (.tmp 79), none, [79]⟩,
    ⟨(some 81), .move (.tmp 13), (some (80, true)), []⟩,
    ⟨(some 82), .fieldAddr 33 (.tmp 7) 2, (some (80, true)), []⟩,
    ⟨(some 83), .load 3 (.tmp 82), (some (80, true)), [82]⟩,
    ⟨(some 84), .binOp .eql 3 (.tmp 81) (.tmp 83) 3, (some (80, true)), [81, 83]⟩,
    ⟨(some 85), .pick (.tmp 80) (.tmp 84) (.const (.bool false)), none, [80, 84]⟩,
    ⟨(some 16), .assign (.tmp 85), none, [85]⟩])
  (.seq (.reg [⟨(some 86), .move (.tmp 15), none, []⟩,
    ⟨(some 87), .binOp .neq 28 (.tmp 86) (.const (.int .i64 0)) 28, none, [86]⟩,
    ⟨(some 88), .move (.tmp 87), none, [87]⟩,
    ⟨(some 89), .move (.tmp 14), (some (88, false)), []⟩,
    ⟨(some 90), .move (.tmp 9), (some (88, false)), []⟩,
    ⟨(some 91), .move (.tmp 13), (some (88, false)), []⟩,
    ⟨(some 92), .indexAddr 40 (.tmp 90) (.tmp 91), (some (88, false)), [90, 91]⟩,
    ⟨(some 93), .load 46 (.tmp 92), (some (88, false)), [92]⟩,
    ⟨(some 94), .binOp .neq 46 (.tmp 89) (.tmp 93) 46, (some (88, false)), [89, 93]⟩,
    ⟨(some 95), .move (.tmp 94), (some (88, false)), [94]⟩,
    ⟨(some 96), .move (.tmp 8), (some (95, true)), []⟩,
    ⟨(some 97), .binOp .eql 3 (.tmp 96) (.const (.int .i64 0)) 3, (some (95, true)), [96]⟩,
    ⟨(some 98), .move (.tmp 97), (some (95, true)), [97]⟩,
    ⟨(some 99), .move (.tmp 13), (some (98, false)), []⟩,
    ⟨(some 100), .fieldAddr 33 (.tmp 7) 1, (some (98, false)), []⟩,
    ⟨(some 101), .load 3 (.tmp 100), (some (98, false)), [100]⟩,
    ⟨(some 102), .binOp .neq 3 (.tmp 99) (.tmp 101) 3, (some (98, false)), [99, 101]⟩,
    ⟨(some 103), .move (.tmp 102), (some (98, false)), [102]⟩,
    ⟨(some 104), .move (.tmp 16), (some (103, true)), []⟩,
    ⟨(some 105), .unOp .not 4 (.tmp 104), (some (103, true)), [104]⟩,
    ⟨(some 106), .pick (.tmp 103) (.tmp 105) (.const (.bool false)), (some (98, false)), [103, 105]⟩,
    ⟨(some 107), .pick (.tmp 98) (.const (.bool true)) (.tmp 106), (some (95, true)), [98, 106]⟩,
    ⟨(some 108), .pick (.tmp 95) (.tmp 107) (.const (.bool false)), (some (88, false)), [95, 107]⟩,
    ⟨(some 109), .pick (.tmp 88) (.const (.bool true)) (.tmp 108), none, [88, 108]⟩])
  (.cond (.tmp 109) (.seq (.reg [⟨(some 4), .assign (.const (.bool false)), none, []⟩])
  .ret)
  .skip)))))
  (.reg [⟨(some 68), .move (.tmp 13), none, []⟩,
    ⟨(some 69), .binOp .add 3 (.tmp 68) (.const (.int .i64 1)) 3, none, [68]⟩,
    ⟨(some 13), .assign (.tmp 69), none, [69]⟩])))))))))))
  (.reg [⟨(some 39), .move (.tmp 10), none, []⟩,
    ⟨(some 40), .binOp .add 3 (.tmp 39) (.const (.int .i64 1)) 3, none, [39]⟩,
    ⟨(some 10), .assign (.tmp 40), none, [40]⟩]))))))
  (.seq (.reg [⟨(some 110), .call ⟨.value (.func 9), #[], #[]⟩, none, []⟩,
    ⟨(some 4), .assign (.tmp 110), none, [110]⟩])
  .ret))))))))
theorem s6 : Stripped Try.prog 6 111 [.tmp 4] C6 := ⟨Try.f6, _, [[[0], []], [[], [17], [18]], [[], [20]], [[], [22], [23], [], [21], [24], [25]], [[], [27], [28], [], [26], [], [29], [30]], [[], [31]], [[]], [[], [33], [34]], [[]], [[], [], [36], [35, 37]], [[], [], [41, 42], [43], [44], [45], [], [47], [46, 48], [49]], [[], [], [50, 51], [52], [53], [54], [55]], [[], [], [], [56, 57, 58, 59]], [[], [], [], [60, 61], [62, 63]], [[]], [[], [], [65], [64, 66]], [[], [], [71, 72], [73], [], [70], [74], [75]], [[], [76], [77], [78], [79], [], [], [82], [81, 83], [80, 84], [85]], [[], [86], [87], [], [], [], [90, 91], [92], [89, 93], [94], [], [96], [97], [], [], [100], [99, 101], [102], [], [104], [103, 105], [98, 106], [95, 107], [88, 108]], [[]], [[], [68], [69]], [[], [39], [40]], [[], [110]]], [], Try.func6, rfl, by kernel_rfl, rfl, rfl, by kernel_rfl⟩
/- probecard/probecardlaw38.DefectsInverse -/
def C7 : CC := (.seq (.reg [⟨(some 2), .box 24 (.tmp 0), none, [0]⟩,
    ⟨(some 4), .assign (.const (.bool false)), none, []⟩])
  (.seq (.reg [⟨(some 22), .load 24 (.tmp 2), none, []⟩,
    ⟨(some 23), .call ⟨.value (.func 11), #[(.tmp 22)], #[24]⟩, none, [22]⟩,
    ⟨(some 21), .move (.tmp 23), none, [23]⟩,
    ⟨(some 24), .extract (.tmp 21) 0, none, []⟩,
    ⟨(some 25), .extract (.tmp 21) 1, none, [21]⟩,
    ⟨(some 5), .alloc 33, none, []⟩,
    ⟨none, .store 33 (.tmp 5) (.tmp 24), none, [24]⟩,
    ⟨(some 6), .assign (.tmp 25), none, [25]⟩])
  (.seq (.seq (.reg [⟨(some 26), .move (.tmp 1), none, []⟩,
    ⟨(some 27), .call ⟨.builtin .len, #[(.tmp 26)], #[25]⟩, none, [26]⟩,
    ⟨(some 28), .binOp .gtr 3 (.tmp 27) (.const (.int .i64 100)) 3, none, [27]⟩,
    ⟨(some 29), .move (.tmp 28), none, [28]⟩,
    ⟨(some 30), .move (.tmp 6), (some (29, false)), []⟩,
    ⟨(some 31), .binOp .eql 3 (.tmp 30) (.const (.int .i64 0)) 3, (some (29, false)), [30]⟩,
    ⟨(some 32), .pick (.tmp 29) (.const (.bool true)) (.tmp 31), none, [29, 31]⟩])
  (.cond (.tmp 32) (.seq (.reg [⟨(some 33), .call ⟨.value (.func 9), #[], #[]⟩, none, []⟩,
    ⟨(some 4), .assign (.tmp 33), none, [33]⟩])
  .ret)
  .skip))
  (.seq (.reg [⟨(some 34), .load 33 (.tmp 5), none, []⟩,
    ⟨(some 7), .alloc 33, none, []⟩,
    ⟨none, .store 33 (.tmp 7) (.tmp 34), none, [34]⟩])
  (.seq (.reg [⟨(some 35), .fieldAddr 33 (.tmp 5) 0, none, []⟩,
    ⟨(some 36), .load 31 (.tmp 35), none, [35]⟩,
    ⟨(some 37), .call ⟨.value (.func 23), #[(.tmp 36)], #[31]⟩, none, [36]⟩,
    ⟨(some 38), .fieldAddr 33 (.tmp 7) 0, none, []⟩,
    ⟨none, .store 31 (.tmp 38) (.tmp 37), none, [37, 38]⟩])
  (.seq (.reg [⟨(some 39), .load 24 (.tmp 2), none, []⟩,
    ⟨(some 40), .call ⟨.value (.func 13), #[(.tmp 39)], #[24]⟩, none, [39]⟩,
    ⟨(some 8), .assign (.tmp 40), none, [40]⟩])
  (.seq (.seq (.reg [⟨(some 9), .assign (.const (.int .i64 0)), none, []⟩])
  (.block 0 (.loop (.seq (.seq (.reg [⟨(some 41), .move (.tmp 9), none, []⟩,
    ⟨(some 42), .move (.tmp 8), none, []⟩,
    ⟨(some 43), .call ⟨.builtin .len, #[(.tmp 42)], #[40]⟩, none, [42]⟩,
    ⟨(some 44), .binOp .lss 3 (.tmp 41) (.tmp 43) 3, none, [41, 43]⟩])
  (.cond (.tmp 44) .skip
  (.exit 0)))
  (.seq (.block 1 (.reg [⟨(some 47), .move (.tmp 8), none, []⟩,
    ⟨(some 48), .move (.tmp 9), none, []⟩,
    ⟨(some 49), .move (.tmp 8), none, []⟩,
    ⟨(some 50), .move (.tmp 9), none, []⟩,
    ⟨(some 51), .indexAddr 40 (.tmp 49) (.tmp 50), none, [49, 50]⟩,
    ⟨(some 52), .load 46 (.tmp 51), none, [51]⟩,
    ⟨(some 53), .binOp .sub 46 (.const (.int .u8 1)) (.tmp 52) 46, none, [52]⟩,
    ⟨(some 54), .indexAddr 40 (.tmp 47) (.tmp 48), none, [47, 48]⟩,
    ⟨none, .store 46 (.tmp 54) (.tmp 53), none, [53, 54]⟩]))
  (.reg [⟨(some 45), .move (.tmp 9), none, []⟩,
    ⟨(some 46), .binOp .add 3 (.tmp 45) (.const (.int .i64 1)) 3, none, [45]⟩,
    ⟨(some 9), .assign (.tmp 46), none, [46]⟩]))))))
  (.seq (.reg [⟨(some 56), .load 24 (.tmp 2), none, []⟩,
    ⟨(some 57), .call ⟨.value (.func 10), #[(.tmp 56)], #[24]⟩, none, [56]⟩,
    ⟨(some 55), .move (.tmp 57), none, [57]⟩,
    ⟨(some 58), .extract (.tmp 55) 0, none, []⟩,
    ⟨(some 59), .extract (.tmp 55) 1, none, [55]⟩,
    ⟨(some 10), .assign (.tmp 58), none, [58]⟩,
    ⟨(some 11), .assign (.tmp 59), none, [59]⟩])
  (.seq (.reg [⟨(some 61), .move (.tmp 8), none, []⟩,
    ⟨(some 62), .load 33 (.tmp 7), none, []⟩,
    ⟨(some 63), .buildSlice 71 1 #[(0, (.tmp 62))], none, [62]⟩,
    ⟨(some 64), .call ⟨.value (.func 24), #[(.tmp 61), (.tmp 63)], #[40, 71]⟩, none, [61, 63]⟩,
    ⟨(some 60), .move (.tmp 64), none, [64]⟩,
    ⟨(some 65), .extract (.tmp 60) 0, none, []⟩,
    ⟨(some 66), .extract (.tmp 60) 1, none, [60]⟩,
    ⟨(some 12), .assign (.tmp 65), none, [65]⟩,
    ⟨(some 13), .assign (.tmp 66), none, [66]⟩])
  (.seq (.seq (.drw [⟨(some 67), .move (.tmp 11), none, []⟩,
    ⟨(some 68), .binOp .neq 28 (.tmp 67) (.const (.int .i64 0)) 28, none, [67]⟩,
    ⟨(some 69), .move (.tmp 68), none, [68]⟩,
    ⟨(some 70), .move (.tmp 13), (some (69, false)), []⟩,
    ⟨(some 71), .binOp .neq 28 (.tmp 70) (.const (.int .i64 0)) 28, (some (69, false)), [70]⟩,
    ⟨(some 72), .pick (.tmp 69) (.const (.bool true)) (.tmp 71), none, [69, 71]⟩,
    ⟨(some 73), .move (.tmp 72), none, [72]⟩,
    ⟨(some 74), .fieldAddr 33 (.tmp 7) 0, (some (73, false)), []⟩,
    ⟨(some 75), .load 31 (.tmp 74), (some (73, false)), [74]⟩,
    ⟨(some 76), .call ⟨.value (.func 23), #[(.tmp 75)], #[31]⟩, (some (73, false)), [75]⟩,
    ⟨(some 77), .fieldAddr 33 (.tmp 5) 0, (some (73, false)), []⟩,
    ⟨(some 78), .load 31 (.tmp 77), (some (73, false)), [77]⟩,
    ⟨(some 79), .binOp .neq 31 (.tmp 76) (.tmp 78) 31, (some (73, false)), [76, 78]⟩,
    ⟨(some 80), .pick (.tmp 73) (.const (.bool true)) (.tmp 79), none, [73, 79]⟩,
    ⟨(some 81), .move (.tmp 80), none, [80]⟩,
    ⟨(some 82), .fieldAddr 33 (.tmp 7) 0, (some (81, false)), []⟩,
    ⟨(some 83), .load 31 (.tmp 82), (some (81, false)), [82]⟩,
    ⟨(some 84), .call ⟨.value (.func 22), #[(.tmp 83)], #[31]⟩, (some (81, false)), [83]⟩,
    ⟨(some 85), .fieldAddr 33 (.tmp 5) 0, (some (81, false)), []⟩,
    ⟨(some 86), .load 31 (.tmp 85), (some (81, false)), [85]⟩,
    ⟨(some 87), .call ⟨.value (.func 22), #[(.tmp 86)], #[31]⟩, (some (81, false)), [86]⟩,
    ⟨(some 88), .binOp .neq 4 (.tmp 84) (.tmp 87) 4, (some (81, false)), [84, 87]⟩,
    ⟨(some 89), .pick (.tmp 81) (.const (.bool true)) (.tmp 88), none, [81, 88]⟩] [0, 1, 3, 7, 15, 31, 63, 127, 255, 511, 127, 1151, 4095, 8191, 16383, 32767, 65535, 131071, 32767, 294911, 1048575, 2097151, 4194303])
  (.cond (.tmp 89) (.seq (.reg [⟨(some 4), .assign (.const (.bool false)), none, []⟩])
  .ret)
  .skip))
  (.seq (.seq (.reg [⟨(some 14), .assign (.const (.int .i64 0)), none, []⟩])
  (.block 2 (.loop (.seq (.seq (.reg [⟨(some 90), .move (.tmp 14), none, []⟩,
    ⟨(some 91), .move (.tmp 1), none, []⟩,
    ⟨(some 92), .call ⟨.builtin .len, #[(.tmp 91)], #[25]⟩, none, [91]⟩,
    ⟨(some 93), .binOp .lss 3 (.tmp 90) (.tmp 92) 3, none, [90, 92]⟩])
  (.cond (.tmp 93) .skip
  (.exit 2)))
  (.seq (.block 3 (.seq (.drw [⟨(some 96), .move (.tmp 1), none, []⟩,
    ⟨(some 97), .move (.tmp 14), none, []⟩,
    ⟨(some 98), .indexAddr 25 (.tmp 96) (.tmp 97), none, [96, 97]⟩,
    ⟨(some 99), .fieldAddr 43 (.tmp 98) 1, none, [98]⟩,
    ⟨(some 100), .load 5 (.tmp 99), none, [99]⟩,
    ⟨(some 101), .convert 5 3 (.tmp 100), none, [100]⟩,
    ⟨(some 102), .load 24 (.tmp 2), none, []⟩,
    ⟨(some 103), .call ⟨.value (.func 14), #[(.tmp 102)], #[24]⟩, none, [102]⟩,
    ⟨(some 104), .binOp .rem 3 (.tmp 101) (.tmp 103) 3, none, [101, 103]⟩,
    ⟨(some 15), .assign (.tmp 104), none, [104]⟩] [0, 0, 3, 7, 15, 31, 0, 64, 255, 511])
  (.seq (.reg [⟨(some 105), .move (.tmp 1), none, []⟩,
    ⟨(some 106), .move (.tmp 14), none, []⟩,
    ⟨(some 107), .indexAddr 25 (.tmp 105) (.tmp 106), none, [105, 106]⟩,
    ⟨(some 108), .fieldAddr 43 (.tmp 107) 2, none, [107]⟩,
    ⟨(some 109), .load 5 (.tmp 108), none, [108]⟩,
    ⟨(some 110), .binOp .rem 5 (.tmp 109) (.const (.int .u8 2)) 5, none, [109]⟩,
    ⟨(some 16), .assign (.tmp 110), none, [110]⟩])
  (.seq (.seq (.reg [⟨(some 111), .move (.tmp 1), none, []⟩,
    ⟨(some 112), .move (.tmp 14), none, []⟩,
    ⟨(some 113), .indexAddr 25 (.tmp 111) (.tmp 112), none, [111, 112]⟩,
    ⟨(some 114), .fieldAddr 43 (.tmp 113) 0, none, [113]⟩,
    ⟨(some 115), .load 4 (.tmp 114), none, [114]⟩])
  (.cond (.tmp 115) (.seq (.reg [⟨(some 116), .move (.tmp 10), none, []⟩,
    ⟨(some 117), .move (.tmp 15), none, []⟩,
    ⟨(some 118), .move (.tmp 16), none, []⟩,
    ⟨(some 119), .call ⟨.value (.func 15), #[(.tmp 116), (.tmp 117), (.tmp 118)], #[27, 3, 46]⟩, none, [116, 117, 118, 119]⟩])
  (.reg [⟨(some 120), .move (.tmp 12), none, []⟩,
    ⟨(some 121), .move (.tmp 15), none, []⟩,
    ⟨(some 122), .move (.tmp 16), none, []⟩,
    ⟨(some 123), .binOp .sub 46 (.const (.int .u8 1)) (.tmp 122) 46, none, [122]⟩,
    ⟨(some 124), .call ⟨.value (.func 15), #[(.tmp 120), (.tmp 121), (.tmp 123)], #[27, 3, 46]⟩, none, [120, 121, 123, 124]⟩]))
  .skip))
  (.seq (.reg [⟨(some 126), .move (.tmp 10), none, []⟩,
    ⟨(some 127), .move (.tmp 15), none, []⟩,
    ⟨(some 128), .call ⟨.value (.func 17), #[(.tmp 126), (.tmp 127)], #[27, 3]⟩, none, [126, 127]⟩,
    ⟨(some 125), .move (.tmp 128), none, [128]⟩,
    ⟨(some 129), .extract (.tmp 125) 0, none, []⟩,
    ⟨(some 130), .extract (.tmp 125) 1, none, [125]⟩,
    ⟨(some 17), .assign (.tmp 129), none, [129]⟩,
    ⟨(some 18), .assign (.tmp 130), none, [130]⟩])
  (.seq (.reg [⟨(some 132), .move (.tmp 12), none, []⟩,
    ⟨(some 133), .move (.tmp 15), none, []⟩,
    ⟨(some 134), .call ⟨.value (.func 17), #[(.tmp 132), (.tmp 133)], #[27, 3]⟩, none, [132, 133]⟩,
    ⟨(some 131), .move (.tmp 134), none, [134]⟩,
    ⟨(some 135), .extract (.tmp 131) 0, none, []⟩,
    ⟨(some 136), .extract (.tmp 131) 1, none, [131]⟩,
    ⟨(some 19), .assign (.tmp 135), none, [135]⟩,
    ⟨(some 20), .assign (.tmp 136), none, [136]⟩])
  (.seq (.reg [⟨(some 137), .move (.tmp 18), none, []⟩,
    ⟨(some 138), .binOp .neq 28 (.tmp 137) (.const (.int .i64 0)) 28, none, [137]⟩,
    ⟨(some 139), .move (.tmp 138), none, [138]⟩,
    ⟨(some 140), .move (.tmp 20), (some (139, false)), []⟩,
    ⟨(some 141), .binOp .neq 28 (.tmp 140) (.const (.int .i64 0)) 28, (some (139, false)), [140]⟩,
    ⟨(some 142), .pick (.tmp 139) (.const (.bool true)) (.tmp 141), none, [139, 141]⟩,
    ⟨(some 143), .move (.tmp 142), none, [142]⟩,
    ⟨(some 144), .move (.tmp 17), (some (143, false)), []⟩,
    ⟨(some 145), .move (.tmp 19), (some (143, false)), []⟩,
    ⟨(some 146), .binOp .add 46 (.tmp 144) (.tmp 145) 46, (some (143, false)), [144, 145]⟩,
    ⟨(some 147), .binOp .neq 46 (.tmp 146) (.const (.int .u8 1)) 46, (some (143, false)), [146]⟩,
    ⟨(some 148), .pick (.tmp 143) (.const (.bool true)) (.tmp 147), none, [143, 147]⟩])
  (.cond (.tmp 148) (.seq (.reg [⟨(some 4), .assign (.const (.bool false)), none, []⟩])
  .ret)
  .skip))))))))
  (.reg [⟨(some 94), .move (.tmp 14), none, []⟩,
    ⟨(some 95), .binOp .add 3 (.tmp 94) (.const (.int .i64 1)) 3, none, [94]⟩,
    ⟨(some 14), .assign (.tmp 95), none, [95]⟩]))))))
  (.seq (.reg [⟨(some 149), .call ⟨.value (.func 9), #[], #[]⟩, none, []⟩,
    ⟨(some 4), .assign (.tmp 149), none, [149]⟩])
  .ret))))))))))))
theorem s7 : Stripped Try.prog 7 150 [.tmp 4] C7 := ⟨Try.f7, _, [[[0], []], [[], [22], [23], [], [21], [], [24], [25]], [[], [26], [27], [28], [], [30], [29, 31]], [[], [33]], [[], [], [34]], [[], [35], [36], [], [37, 38]], [[], [39], [40]], [[]], [[], [], [42], [41, 43]], [[], [], [], [], [49, 50], [51], [52], [47, 48], [53, 54]], [[], [45], [46]], [[], [56], [57], [], [55], [58], [59]], [[], [], [62], [61, 63], [64], [], [60], [65], [66]], [[], [67], [68], [], [70], [69, 71], [72], [], [74], [75], [], [77], [76, 78], [73, 79], [80], [], [82], [83], [], [85], [86], [84, 87], [81, 88]], [[]], [[]], [[], [], [91], [90, 92]], [[], [], [96, 97], [98], [99], [100], [], [102], [101, 103], [104]], [[], [], [105, 106], [107], [108], [109], [110]], [[], [], [111, 112], [113], [114]], [[], [], [], [116, 117, 118, 119]], [[], [], [], [122], [120, 121, 123, 124]], [[], [], [126, 127], [128], [], [125], [129], [130]], [[], [], [132, 133], [134], [], [131], [135], [136]], [[], [137], [138], [], [140], [139, 141], [142], [], [], [144, 145], [146], [143, 147]], [[]], [[], [94], [95]], [[], [149]]], [], Try.func7, rfl, by kernel_rfl, rfl, rfl, by kernel_rfl⟩
/- probecard/probecardlaw38.DefectsNames -/
def C8 : CC := (.seq (.reg [⟨(some 2), .assign (.const (.bool false)), none, []⟩])
  (.seq (.reg [⟨(some 6), .makeMap 61 none, none, []⟩,
    ⟨(some 3), .assign (.tmp 6), none, [6]⟩])
  (.seq (.seq (.reg [⟨(some 4), .assign (.const (.int .i64 0)), none, []⟩])
  (.block 0 (.loop (.seq (.seq (.reg [⟨(some 7), .move (.tmp 4), none, []⟩,
    ⟨(some 8), .binOp .lss 3 (.tmp 7) (.const (.int .i64 19)) 3, none, [7]⟩])
  (.cond (.tmp 8) .skip
  (.exit 0)))
  (.seq (.block 1 (.seq (.reg [⟨(some 11), .move (.tmp 4), none, []⟩,
    ⟨(some 12), .convert 3 31 (.tmp 11), none, [11]⟩,
    ⟨(some 13), .call ⟨.value (.func 25), #[(.tmp 12)], #[31]⟩, none, [12]⟩,
    ⟨(some 5), .assign (.tmp 13), none, [13]⟩])
  (.seq (.seq (.reg [⟨(some 14), .move (.tmp 5), none, []⟩,
    ⟨(some 15), .binOp .eql 9 (.tmp 14) (.const (.string ⟨#[]⟩)) 9, none, [14]⟩,
    ⟨(some 16), .move (.tmp 15), none, [15]⟩,
    ⟨(some 17), .move (.tmp 5), (some (16, false)), []⟩,
    ⟨(some 18), .binOp .eql 9 (.tmp 17) (.const (.string ⟨#[63]⟩)) 9, (some (16, false)), [17]⟩,
    ⟨(some 19), .pick (.tmp 16) (.const (.bool true)) (.tmp 18), none, [16, 18]⟩,
    ⟨(some 20), .move (.tmp 19), none, [19]⟩,
    ⟨(some 21), .move (.tmp 3), (some (20, false)), []⟩,
    ⟨(some 22), .move (.tmp 5), (some (20, false)), []⟩,
    ⟨(some 23), .lookup 61 (.tmp 21) (.tmp 22) false, (some (20, false)), [21, 22]⟩,
    ⟨(some 24), .pick (.tmp 20) (.const (.bool true)) (.tmp 23), none, [20, 23]⟩,
    ⟨(some 25), .move (.tmp 24), none, [24]⟩,
    ⟨(some 26), .move (.tmp 4), (some (25, false)), []⟩,
    ⟨(some 27), .convert 3 31 (.tmp 26), (some (25, false)), [26]⟩,
    ⟨(some 28), .call ⟨.value (.func 23), #[(.tmp 27)], #[31]⟩, (some (25, false)), [27]⟩,
    ⟨(some 29), .call ⟨.value (.func 23), #[(.tmp 28)], #[31]⟩, (some (25, false)), [28]⟩,
    ⟨(some 30), .move (.tmp 4), (some (25, false)), []⟩,
    ⟨(some 31), .convert 3 31 (.tmp 30), (some (25, false)), [30]⟩,
    ⟨(some 32), .binOp .neq 31 (.tmp 29) (.tmp 31) 31, (some (25, false)), [29, 31]⟩,
    ⟨(some 33), .pick (.tmp 25) (.const (.bool true)) (.tmp 32), none, [25, 32]⟩,
    ⟨(some 34), .move (.tmp 33), none, [33]⟩,
    ⟨(some 35), .move (.tmp 4), (some (34, false)), []⟩,
    ⟨(some 36), .convert 3 31 (.tmp 35), (some (34, false)), [35]⟩,
    ⟨(some 37), .call ⟨.value (.func 23), #[(.tmp 36)], #[31]⟩, (some (34, false)), [36]⟩,
    ⟨(some 38), .move (.tmp 4), (some (34, false)), []⟩,
    ⟨(some 39), .convert 3 31 (.tmp 38), (some (34, false)), [38]⟩,
    ⟨(some 40), .binOp .eql 31 (.tmp 37) (.tmp 39) 31, (some (34, false)), [37, 39]⟩,
    ⟨(some 41), .move (.tmp 4), (some (34, false)), []⟩,
    ⟨(some 42), .binOp .eql 3 (.tmp 41) (.const (.int .i64 16)) 3, (some (34, false)), [41]⟩,
    ⟨(some 43), .binOp .neq 4 (.tmp 40) (.tmp 42) 4, (some (34, false)), [40, 42]⟩,
    ⟨(some 44), .pick (.tmp 34) (.const (.bool true)) (.tmp 43), none, [34, 43]⟩])
  (.cond (.tmp 44) (.seq (.reg [⟨(some 2), .assign (.const (.bool false)), none, []⟩])
  .ret)
  .skip))
  (.reg [⟨(some 45), .move (.tmp 3), none, []⟩,
    ⟨(some 46), .move (.tmp 5), none, []⟩,
    ⟨none, .mapUpdate 61 (.tmp 45) (.tmp 46) (.const (.bool true)), none, [45, 46]⟩]))))
  (.reg [⟨(some 9), .move (.tmp 4), none, []⟩,
    ⟨(some 10), .binOp .add 3 (.tmp 9) (.const (.int .i64 1)) 3, none, [9]⟩,
    ⟨(some 4), .assign (.tmp 10), none, [10]⟩]))))))
  (.seq (.seq (.reg [⟨(some 47), .move (.tmp 0), none, []⟩,
    ⟨(some 48), .binOp .gtr 5 (.tmp 47) (.const (.int .u8 18)) 5, none, [47]⟩])
  (.cond (.tmp 48) (.seq (.reg [⟨(some 49), .move (.tmp 0), none, []⟩,
    ⟨(some 50), .call ⟨.value (.func 25), #[(.tmp 49)], #[31]⟩, none, [49]⟩,
    ⟨(some 51), .binOp .eql 9 (.tmp 50) (.const (.string ⟨#[63]⟩)) 9, none, [50]⟩,
    ⟨(some 52), .move (.tmp 51), none, [51]⟩,
    ⟨(some 53), .move (.tmp 0), (some (52, true)), []⟩,
    ⟨(some 54), .call ⟨.value (.func 23), #[(.tmp 53)], #[31]⟩, (some (52, true)), [53]⟩,
    ⟨(some 55), .move (.tmp 0), (some (52, true)), []⟩,
    ⟨(some 56), .binOp .eql 31 (.tmp 54) (.tmp 55) 31, (some (52, true)), [54, 55]⟩,
    ⟨(some 57), .pick (.tmp 52) (.tmp 56) (.const (.bool false)), none, [52, 56]⟩,
    ⟨(some 58), .move (.tmp 57), none, [57]⟩,
    ⟨(some 59), .call ⟨.value (.func 9), #[], #[]⟩, (some (58, true)), []⟩,
    ⟨(some 60), .pick (.tmp 58) (.tmp 59) (.const (.bool false)), none, [58, 59]⟩,
    ⟨(some 2), .assign (.tmp 60), none, [60]⟩])
  .ret)
  .skip))
  (.seq (.reg [⟨(some 61), .call ⟨.value (.func 9), #[], #[]⟩, none, []⟩,
    ⟨(some 2), .assign (.tmp 61), none, [61]⟩])
  .ret)))))
theorem s8 : Stripped Try.prog 8 62 [.tmp 2] C8 := ⟨Try.f8, _, [[[]], [[], [6]], [[]], [[], [7]], [[], [11], [12], [13]], [[], [14], [15], [], [17], [16, 18], [19], [], [], [21, 22], [20, 23], [24], [], [26], [27], [28], [], [30], [29, 31], [25, 32], [33], [], [35], [36], [], [38], [37, 39], [], [41], [40, 42], [34, 43]], [[]], [[], [], [45, 46]], [[], [9], [10]], [[], [47]], [[], [49], [50], [51], [], [53], [], [54, 55], [52, 56], [57], [], [58, 59], [60]], [[], [61]]], [], Try.func8, rfl, by kernel_rfl, rfl, rfl, by kernel_rfl⟩
/- probecard/probecardlaw38.lives -/
def C9 : CC := (.seq (.reg [⟨(some 0), .assign (.const (.bool false)), none, []⟩])
  (.seq (.reg [⟨(some 12), .buildSlice 40 2 #[(0, (.const (.int .u8 0))), (1, (.const (.int .u8 0)))], none, []⟩,
    ⟨(some 1), .assign (.tmp 12), none, [12]⟩])
  (.seq (.reg [⟨(some 14), .move (.tmp 1), none, []⟩,
    ⟨(some 15), .build 33 #[(0, (.const (.int .u8 4))), (1, (.const (.int .i64 1)))], none, []⟩,
    ⟨(some 16), .buildSlice 71 1 #[(0, (.tmp 15))], none, [15]⟩,
    ⟨(some 17), .call ⟨.value (.func 24), #[(.tmp 14), (.tmp 16)], #[40, 71]⟩, none, [14, 16]⟩,
    ⟨(some 13), .move (.tmp 17), none, [17]⟩,
    ⟨(some 18), .extract (.tmp 13) 0, none, []⟩,
    ⟨(some 19), .extract (.tmp 13) 1, none, [13]⟩,
    ⟨(some 2), .assign (.tmp 18), none, [18]⟩,
    ⟨(some 3), .assign (.tmp 19), none, [19]⟩])
  (.seq (.seq (.reg [⟨(some 20), .move (.tmp 3), none, []⟩,
    ⟨(some 21), .binOp .neq 28 (.tmp 20) (.const (.int .i64 0)) 28, none, [20]⟩,
    ⟨(some 22), .move (.tmp 21), none, [21]⟩,
    ⟨(some 23), .move (.tmp 2), (some (22, false)), []⟩,
    ⟨(some 24), .call ⟨.value (.func 15), #[(.tmp 23), (.const (.int .i64 0)), (.const (.int .u8 1))], #[27, 3, 46]⟩, (some (22, false)), [23]⟩,
    ⟨(some 25), .binOp .neq 28 (.tmp 24) (.const (.int .i64 0)) 28, (some (22, false)), [24]⟩,
    ⟨(some 26), .pick (.tmp 22) (.const (.bool true)) (.tmp 25), none, [22, 25]⟩])
  (.cond (.tmp 26) (.seq (.reg [⟨(some 0), .assign (.const (.bool false)), none, []⟩])
  .ret)
  .skip))
  (.seq (.reg [⟨(some 27), .move (.tmp 2), none, []⟩,
    ⟨(some 28), .call ⟨.value (.func 19), #[(.tmp 27)], #[27]⟩, none, [27]⟩,
    ⟨(some 4), .assign (.tmp 28), none, [28]⟩])
  (.seq (.reg [⟨(some 29), .move (.tmp 2), none, []⟩,
    ⟨(some 30), .call ⟨.value (.func 15), #[(.tmp 29), (.const (.int .i64 0)), (.const (.int .u8 1))], #[27, 3, 46]⟩, none, [29, 30]⟩])
  (.seq (.reg [⟨(some 31), .move (.tmp 2), none, []⟩,
    ⟨(some 32), .call ⟨.value (.func 19), #[(.tmp 31)], #[27]⟩, none, [31]⟩,
    ⟨(some 5), .assign (.tmp 32), none, [32]⟩])
  (.seq (.reg [⟨(some 33), .move (.tmp 2), none, []⟩,
    ⟨(some 34), .call ⟨.value (.func 15), #[(.tmp 33), (.const (.int .i64 0)), (.const (.int .u8 0))], #[27, 3, 46]⟩, none, [33, 34]⟩])
  (.seq (.reg [⟨(some 35), .move (.tmp 2), none, []⟩,
    ⟨(some 36), .call ⟨.value (.func 19), #[(.tmp 35)], #[27]⟩, none, [35]⟩,
    ⟨(some 6), .assign (.tmp 36), none, [36]⟩])
  (.seq (.reg [⟨(some 38), .move (.tmp 1), none, []⟩,
    ⟨(some 39), .build 33 #[(0, (.const (.int .u8 17))), (2, (.const (.int .i64 1)))], none, []⟩,
    ⟨(some 40), .buildSlice 71 1 #[(0, (.tmp 39))], none, [39]⟩,
    ⟨(some 41), .call ⟨.value (.func 24), #[(.tmp 38), (.tmp 40)], #[40, 71]⟩, none, [38, 40]⟩,
    ⟨(some 37), .move (.tmp 41), none, [41]⟩,
    ⟨(some 42), .extract (.tmp 37) 0, none, []⟩,
    ⟨(some 43), .extract (.tmp 37) 1, none, [37]⟩,
    ⟨(some 7), .assign (.tmp 42), none, [42]⟩,
    ⟨(some 8), .assign (.tmp 43), none, [43]⟩])
  (.seq (.seq (.reg [⟨(some 44), .move (.tmp 8), none, []⟩,
    ⟨(some 45), .binOp .neq 28 (.tmp 44) (.const (.int .i64 0)) 28, none, [44]⟩,
    ⟨(some 46), .move (.tmp 45), none, [45]⟩,
    ⟨(some 47), .move (.tmp 4), (some (46, false)), []⟩,
    ⟨(some 48), .call ⟨.builtin .len, #[(.tmp 47)], #[40]⟩, (some (46, false)), [47]⟩,
    ⟨(some 49), .binOp .neq 3 (.tmp 48) (.const (.int .i64 2)) 3, (some (46, false)), [48]⟩,
    ⟨(some 50), .pick (.tmp 46) (.const (.bool true)) (.tmp 49), none, [46, 49]⟩,
    ⟨(some 51), .move (.tmp 50), none, [50]⟩,
    ⟨(some 52), .move (.tmp 5), (some (51, false)), []⟩,
    ⟨(some 53), .call ⟨.builtin .len, #[(.tmp 52)], #[40]⟩, (some (51, false)), [52]⟩,
    ⟨(some 54), .binOp .neq 3 (.tmp 53) (.const (.int .i64 2)) 3, (some (51, false)), [53]⟩,
    ⟨(some 55), .pick (.tmp 51) (.const (.bool true)) (.tmp 54), none, [51, 54]⟩,
    ⟨(some 56), .move (.tmp 55), none, [55]⟩,
    ⟨(some 57), .move (.tmp 6), (some (56, false)), []⟩,
    ⟨(some 58), .call ⟨.builtin .len, #[(.tmp 57)], #[40]⟩, (some (56, false)), [57]⟩,
    ⟨(some 59), .binOp .neq 3 (.tmp 58) (.const (.int .i64 2)) 3, (some (56, false)), [58]⟩,
    ⟨(some 60), .pick (.tmp 56) (.const (.bool true)) (.tmp 59), none, [56, 59]⟩])
  (.cond (.tmp 60) (.seq (.reg [⟨(some 0), .assign (.const (.bool false)), none, []⟩])
  .ret)
  .skip))
  (.seq (.reg [⟨(some 61), .move (.tmp 7), none, []⟩,
    ⟨(some 62), .call ⟨.value (.func 15), #[(.tmp 61), (.const (.int .i64 0)), (.const (.int .u8 1))], #[27, 3, 46]⟩, none, [61, 62]⟩])
  (.seq (.reg [⟨(some 63), .move (.tmp 7), none, []⟩,
    ⟨(some 64), .call ⟨.value (.func 19), #[(.tmp 63)], #[27]⟩, none, [63]⟩,
    ⟨(some 9), .assign (.tmp 64), none, [64]⟩])
  (.seq (.reg [⟨(some 65), .move (.tmp 7), none, []⟩,
    ⟨(some 66), .call ⟨.value (.func 15), #[(.tmp 65), (.const (.int .i64 1)), (.const (.int .u8 0))], #[27, 3, 46]⟩, none, [65, 66]⟩])
  (.seq (.reg [⟨(some 68), .move (.tmp 7), none, []⟩,
    ⟨(some 69), .call ⟨.value (.func 17), #[(.tmp 68), (.const (.int .i64 0))], #[27, 3]⟩, none, [68]⟩,
    ⟨(some 67), .move (.tmp 69), none, [69]⟩,
    ⟨(some 70), .extract (.tmp 67) 0, none, []⟩,
    ⟨(some 71), .extract (.tmp 67) 1, none, [67]⟩,
    ⟨(some 10), .assign (.tmp 70), none, [70]⟩,
    ⟨(some 11), .assign (.tmp 71), none, [71]⟩])
  (.seq (.reg [⟨(some 72), .move (.tmp 4), none, []⟩,
    ⟨(some 73), .indexAddr 40 (.tmp 72) (.const (.int .i64 0)), none, [72]⟩,
    ⟨(some 74), .load 46 (.tmp 73), none, [73]⟩,
    ⟨(some 75), .binOp .eql 46 (.tmp 74) (.const (.int .u8 1)) 46, none, [74]⟩,
    ⟨(some 76), .move (.tmp 75), none, [75]⟩,
    ⟨(some 77), .move (.tmp 4), (some (76, true)), []⟩,
    ⟨(some 78), .indexAddr 40 (.tmp 77) (.const (.int .i64 1)), (some (76, true)), [77]⟩,
    ⟨(some 79), .load 46 (.tmp 78), (some (76, true)), [78]⟩,
    ⟨(some 80), .binOp .eql 46 (.tmp 79) (.const (.int .u8 1)) 46, (some (76, true)), [79]⟩,
    ⟨(some 81), .pick (.tmp 76) (.tmp 80) (.const (.bool false)), none, [76, 80]⟩,
    ⟨(some 82), .move (.tmp 81), none, [81]⟩,
    ⟨(some 83), .move (.tmp 5), (some (82, true)), []⟩,
    ⟨(some 84), .indexAddr 40 (.tmp 83) (.const (.int .i64 0)), (some (82, true)), [83]⟩,
    ⟨(some 85), .load 46 (.tmp 84), (some (82, true)), [84]⟩,
    ⟨(some 86), .binOp .eql 46 (.tmp 85) (.const (.int .u8 1)) 46, (some (82, true)), [85]⟩,
    ⟨(some 87), .pick (.tmp 82) (.tmp 86) (.const (.bool false)), none, [82, 86]⟩,
    ⟨(some 88), .move (.tmp 87), none, [87]⟩,
    ⟨(some 89), .move (.tmp 5), (some (88, true)), []⟩,
    ⟨(some 90), .indexAddr 40 (.tmp 89) (.const (.int .i64 1)), (some (88, true)), [89]⟩,
    ⟨(some 91), .load 46 (.tmp 90), (some (88, true)), [90]⟩,
    ⟨(some 92), .binOp .eql 46 (.tmp 91) (.const (.int .u8 1)) 46, (some (88, true)), [91]⟩,
    ⟨(some 93), .pick (.tmp 88) (.tmp 92) (.const (.bool false)), none, [88, 92]⟩,
    ⟨(some 94), .move (.tmp 93), none, [93]⟩,
    ⟨(some 95), .move (.tmp 6), (some (94, true)), []⟩,
    ⟨(some 96), .indexAddr 40 (.tmp 95) (.const (.int .i64 0)), (some (94, true)), [95]⟩,
    ⟨(some 97), .load 46 (.tmp 96), (some (94, true)), [96]⟩,
    ⟨(some 98), .binOp .eql 46 (.tmp 97) (.const (.int .u8 0)) 46, (some (94, true)), [97]⟩,
    ⟨(some 99), .pick (.tmp 94) (.tmp 98) (.const (.bool false)), none, [94, 98]⟩,
    ⟨(some 100), .move (.tmp 99), none, [99]⟩,
    ⟨(some 101), .move (.tmp 6), (some (100, true)), []⟩,
    ⟨(some 102), .indexAddr 40 (.tmp 101) (.const (.int .i64 1)), (some (100, true)), [101]⟩,
    ⟨(some 103), .load 46 (.tmp 102), (some (100, true)), [102]⟩,
    ⟨(some 104), .binOp .eql 46 (.tmp 103) (.const (.int .u8 1)) 46, (some (100, true)), [103]⟩,
    ⟨(some 105), .pick (.tmp 100) (.tmp 104) (.const (.bool false)), none, [100, 104]⟩,
    ⟨(some 106), .move (.tmp 105), none, [105]⟩,
    ⟨(some 107), .move (.tmp 9), (some (106, true)), []⟩,
    ⟨(some 108), .call ⟨.builtin .len, #[(.tmp 107)], #[40]⟩, (some (106, true)), [107]⟩,
    ⟨(some 109), .binOp .eql 3 (.tmp 108) (.const (.int .i64 2)) 3, (some (106, true)), [108]⟩,
    ⟨(some 110), .pick (.tmp 106) (.tmp 109) (.const (.bool false)), none, [106, 109]⟩,
    ⟨(some 111), .move (.tmp 110), none, [110]⟩,
    ⟨(some 112), .move (.tmp 9), (some (111, true)), []⟩,
    ⟨(some 113), .indexAddr 40 (.tmp 112) (.const (.int .i64 0)), (some (111, true)), [112]⟩,
    ⟨(some 114), .load 46 (.tmp 113), (some (111, true)), [113]⟩,
    ⟨(some 115), .binOp .eql 46 (.tmp 114) (.const (.int .u8 1)) 46, (some (111, true)), [114]⟩,
    ⟨(some 116), .pick (.tmp 111) (.tmp 115) (.const (.bool false)), none, [111, 115]⟩,
    ⟨(some 117), .move (.tmp 116), none, [116]⟩,
    ⟨(some 118), .move (.tmp 9), (some (117, true)), []⟩,
    ⟨(some 119), .indexAddr 40 (.tmp 118) (.const (.int .i64 1)), (some (117, true)), [118]⟩,
    ⟨(some 120), .load 46 (.tmp 119), (some (117, true)), [119]⟩,
    ⟨(some 121), .binOp .eql 46 (.tmp 120) (.const (.int .u8 1)) 46, (some (117, true)), [120]⟩,
    ⟨(some 122), .pick (.tmp 117) (.tmp 121) (.const (.bool false)), none, [117, 121]⟩,
    ⟨(some 123), .move (.tmp 122), none, [122]⟩,
    ⟨(some 124), .move (.tmp 10), (some (123, true)), []⟩,
    ⟨(some 125), .binOp .eql 46 (.tmp 124) (.const (.int .u8 0)) 46, (some (123, true)), [124]⟩,
    ⟨(some 126), .pick (.tmp 123) (.tmp 125) (.const (.bool false)), none, [123, 125]⟩,
    ⟨(some 127), .move (.tmp 126), none, [126]⟩,
    ⟨(some 128), .move (.tmp 11), (some (127, true)), []⟩,
    ⟨(some 129), .binOp .eql 28 (.tmp 128) (.const (.int .i64 0)) 28, (some (127, true)), [128]⟩,
    ⟨(some 130), .pick (.tmp 127) (.tmp 129) (.const (.bool false)), none, [127, 129]⟩,
    ⟨(some 131), .move (.tmp 130), none, [130]⟩,
    ⟨(some 132), .call ⟨.value (.func 25), #[(.const (.int .u8 16))], #[31]⟩, (some (131, true)), []⟩,
    ⟨(some 133), .binOp .eql 9 (.tmp 132) (.const (.string ⟨#[87, 114, 111, 110, 103]⟩)) 9, (some (131, true)), [132]⟩,
    ⟨(some 134), .pick (.tmp 131) (.tmp 133) (.const (.bool false)), none, [131, 133]⟩,
    ⟨(some 0), .assign (.tmp 134), none, [134]⟩])
  .ret))))))))))))))))
theorem s9 : Stripped Try.prog 9 135 [.tmp 0] C9 := ⟨Try.f9, _, [[[]], [[], [12]], [[], [], [15], [14, 16], [17], [], [13], [18], [19]], [[], [20], [21], [], [23], [24], [22, 25]], [[]], [[], [27], [28]], [[], [29, 30]], [[], [31], [32]], [[], [33, 34]], [[], [35], [36]], [[], [], [39], [38, 40], [41], [], [37], [42], [43]], [[], [44], [45], [], [47], [48], [46, 49], [50], [], [52], [53], [51, 54], [55], [], [57], [58], [56, 59]], [[]], [[], [61, 62]], [[], [63], [64]], [[], [65, 66]], [[], [68], [69], [], [67], [70], [71]], [[], [72], [73], [74], [75], [], [77], [78], [79], [76, 80], [81], [], [83], [84], [85], [82, 86], [87], [], [89], [90], [91], [88, 92], [93], [], [95], [96], [97], [94, 98], [99], [], [101], [102], [103], [100, 104], [105], [], [107], [108], [106, 109], [110], [], [112], [113], [114], [111, 115], [116], [], [118], [119], [120], [117, 121], [122], [], [124], [123, 125], [126], [], [128], [127, 129], [130], [], [132], [131, 133], [134]]], [], Try.func9, rfl, by kernel_rfl, rfl, rfl, by kernel_rfl⟩
/- (probecard/probecardlaw38.Case).New -/
def C10 : CC := (.seq (.reg [⟨(some 1), .box 24 (.tmp 0), none, [0]⟩,
    ⟨(some 2), .assign (.const (.pointer none)), none, []⟩,
    ⟨(some 3), .assign (.const (.int .i64 0)), none, []⟩])
  (.seq (.reg [⟨(some 7), .load 24 (.tmp 1), none, []⟩,
    ⟨(some 8), .call ⟨.value (.func 11), #[(.tmp 7)], #[24]⟩, none, [7]⟩,
    ⟨(some 6), .move (.tmp 8), none, [8]⟩,
    ⟨(some 9), .extract (.tmp 6) 0, none, []⟩,
    ⟨(some 10), .extract (.tmp 6) 1, none, [6]⟩,
    ⟨(some 4), .alloc 33, none, []⟩,
    ⟨none, .store 33 (.tmp 4) (.tmp 9), none, [9]⟩,
    ⟨(some 5), .assign (.tmp 10), none, [10]⟩])
  (.seq (.seq (.reg [⟨(some 11), .move (.tmp 5), none, []⟩,
    ⟨(some 12), .binOp .eql 3 (.tmp 11) (.const (.int .i64 0)) 3, none, [11]⟩])
  (.cond (.tmp 12) (.seq (.reg [⟨(some 13), .load 24 (.tmp 1), none, []⟩,
    ⟨(some 14), .call ⟨.value (.func 13), #[(.tmp 13)], #[24]⟩, none, [13]⟩,
    ⟨(some 15), .call ⟨.value (.func 24), #[(.tmp 14), (.const (.slice none 0 0))], #[40, 71]⟩, none, [14]⟩,
    ⟨(some 16), .extract (.tmp 15) 0, none, []⟩,
    ⟨(some 17), .extract (.tmp 15) 1, none, [15]⟩,
    ⟨(some 2), .assign (.tmp 16), none, [16]⟩,
    ⟨(some 3), .assign (.tmp 17), none, [17]⟩])
  .ret)
  .skip))
  (.seq (.drw [⟨(some 18), .load 24 (.tmp 1), none, []⟩,
    ⟨(some 19), .call ⟨.value (.func 13), #[(.tmp 18)], #[24]⟩, none, [18]⟩,
    ⟨(some 20), .load 33 (.tmp 4), none, []⟩,
    ⟨(some 21), .buildSlice 71 1 #[(0, (.tmp 20))], none, [20]⟩,
    ⟨(some 22), .call ⟨.value (.func 24), #[(.tmp 19), (.tmp 21)], #[40, 71]⟩, none, [19, 21]⟩,
    ⟨(some 23), .extract (.tmp 22) 0, none, []⟩,
    ⟨(some 24), .extract (.tmp 22) 1, none, [22]⟩,
    ⟨(some 2), .assign (.tmp 23), none, [23]⟩,
    ⟨(some 3), .assign (.tmp 24), none, [24]⟩] [0, 1, 0, 4, 15, 31, 31, 127, 255])
  .ret))))
theorem s10 : Stripped Try.prog 10 25 [.tmp 2, .tmp 3] C10 := ⟨Try.f10, _, [[[0], [], []], [[], [7], [8], [], [6], [], [9], [10]], [[], [11]], [[], [13], [14], [], [15], [16], [17]], [[], [18], [], [20], [19, 21], [], [22], [23], [24]]], [], Try.func10, rfl, by kernel_rfl, rfl, rfl, by kernel_rfl⟩
/- (probecard/probecardlaw38.Case).Defect -/
def C11 : CC := (.seq (.reg [⟨(some 1), .box 24 (.tmp 0), none, [0]⟩,
    ⟨(some 2), .alloc 33, none, []⟩,
    ⟨(some 3), .assign (.const (.int .i64 0)), none, []⟩])
  (.seq (.reg [⟨(some 6), .load 24 (.tmp 1), none, []⟩,
    ⟨(some 7), .call ⟨.value (.func 14), #[(.tmp 6)], #[24]⟩, none, [6]⟩,
    ⟨(some 4), .assign (.tmp 7), none, [7]⟩])
  (.seq (.reg [⟨(some 8), .fieldAddr 24 (.tmp 1) 2, none, []⟩,
    ⟨(some 9), .load 5 (.tmp 8), none, [8]⟩,
    ⟨(some 10), .binOp .rem 5 (.tmp 9) (.const (.int .u8 20)) 5, none, [9]⟩,
    ⟨(some 11), .convert 5 3 (.tmp 10), none, [10]⟩,
    ⟨(some 5), .assign (.tmp 11), none, [11]⟩])
  (.seq (.seq (.reg [⟨(some 12), .move (.tmp 5), none, []⟩,
    ⟨(some 13), .binOp .eql 3 (.tmp 12) (.const (.int .i64 19)) 3, none, [12]⟩])
  (.cond (.tmp 13) (.seq (.reg [⟨(some 14), .load 33 (.tmp 2), none, []⟩,
    ⟨none, .store 33 (.tmp 2) (.tmp 14), none, [14]⟩,
    ⟨(some 3), .assign (.const (.int .i64 0)), none, []⟩])
  .ret)
  .skip))
  (.seq (.reg [⟨(some 15), .move (.tmp 5), none, []⟩,
    ⟨(some 16), .convert 3 31 (.tmp 15), none, [15]⟩,
    ⟨(some 17), .fieldAddr 33 (.tmp 2) 0, none, []⟩,
    ⟨none, .store 31 (.tmp 17) (.tmp 16), none, [16, 17]⟩])
  (.seq (.reg [⟨(some 18), .fieldAddr 24 (.tmp 1) 3, none, []⟩,
    ⟨(some 19), .load 5 (.tmp 18), none, [18]⟩,
    ⟨(some 20), .convert 5 3 (.tmp 19), none, [19]⟩,
    ⟨(some 21), .move (.tmp 4), none, []⟩,
    ⟨(some 22), .binOp .rem 3 (.tmp 20) (.tmp 21) 3, none, [20, 21]⟩,
    ⟨(some 23), .fieldAddr 33 (.tmp 2) 1, none, []⟩,
    ⟨none, .store 3 (.tmp 23) (.tmp 22), none, [22, 23]⟩])
  (.seq (.seq (.reg [⟨(some 24), .move (.tmp 5), none, []⟩,
    ⟨(some 25), .binOp .gtr 3 (.tmp 24) (.const (.int .i64 3)) 3, none, [24]⟩,
    ⟨(some 26), .move (.tmp 25), none, [25]⟩,
    ⟨(some 27), .move (.tmp 5), (some (26, true)), []⟩,
    ⟨(some 28), .binOp .neq 3 (.tmp 27) (.const (.int .i64 14)) 3, (some (26, true)), [27]⟩,
    ⟨(some 29), .pick (.tmp 26) (.tmp 28) (.const (.bool false)), none, [26, 28]⟩,
    ⟨(some 30), .move (.tmp 29), none, [29]⟩,
    ⟨(some 31), .move (.tmp 5), (some (30, true)), []⟩,
    ⟨(some 32), .binOp .neq 3 (.tmp 31) (.const (.int .i64 15)) 3, (some (30, true)), [31]⟩,
    ⟨(some 33), .pick (.tmp 30) (.tmp 32) (.const (.bool false)), none, [30, 32]⟩])
  (.cond (.tmp 33) (.drw [⟨(some 34), .fieldAddr 33 (.tmp 2) 1, none, []⟩,
    ⟨(some 35), .load 3 (.tmp 34), none, [34]⟩,
    ⟨(some 36), .binOp .add 3 (.tmp 35) (.const (.int .i64 1)) 3, none, [35]⟩,
    ⟨(some 37), .fieldAddr 24 (.tmp 1) 4, none, []⟩,
    ⟨(some 38), .load 5 (.tmp 37), none, [37]⟩,
    ⟨(some 39), .convert 5 3 (.tmp 38), none, [38]⟩,
    ⟨(some 40), .move (.tmp 4), none, []⟩,
    ⟨(some 41), .binOp .sub 3 (.tmp 40) (.const (.int .i64 1)) 3, none, [40]⟩,
    ⟨(some 42), .binOp .rem 3 (.tmp 39) (.tmp 41) 3, none, [39, 41]⟩,
    ⟨(some 43), .binOp .add 3 (.tmp 36) (.tmp 42) 3, none, [36, 42]⟩,
    ⟨(some 44), .move (.tmp 4), none, []⟩,
    ⟨(some 45), .binOp .rem 3 (.tmp 43) (.tmp 44) 3, none, [43, 44]⟩,
    ⟨(some 46), .fieldAddr 33 (.tmp 2) 2, none, []⟩,
    ⟨none, .store 3 (.tmp 46) (.tmp 45), none, [45, 46]⟩] [0, 1, 3, 0, 8, 24, 0, 64, 248, 511, 0, 2047, 4095, 8191])
  .skip))
  (.seq (.reg [⟨(some 47), .load 33 (.tmp 2), none, []⟩,
    ⟨none, .store 33 (.tmp 2) (.tmp 47), none, [47]⟩,
    ⟨(some 3), .assign (.const (.int .i64 1)), none, []⟩])
  .ret))))))))
theorem s11 : Stripped Try.prog 11 48 [.cell 2 33, .tmp 3] C11 := ⟨Try.f11, _, [[[0], [], []], [[], [6], [7]], [[], [8], [9], [10], [11]], [[], [12]], [[], [14], []], [[], [15], [], [16, 17]], [[], [18], [19], [], [20, 21], [], [22, 23]], [[], [24], [25], [], [27], [26, 28], [29], [], [31], [30, 32]], [[], [34], [35], [], [37], [38], [], [40], [39, 41], [36, 42], [], [43, 44], [], [45, 46]], [[], [47], []]], [], Try.func11, rfl, by kernel_rfl, rfl, rfl, by kernel_rfl⟩
/- probecard/probecardref38.New -/
def C12 : CC := (.seq (.reg [⟨(some 8), .alloc 38, none, []⟩])
  (.seq (.reg [⟨(some 11), .move (.tmp 1), none, [1]⟩,
    ⟨(some 12), .move (.tmp 2), none, [2]⟩,
    ⟨(some 13), .move (.tmp 3), none, [3]⟩,
    ⟨(some 14), .build 38 #[(1, (.tmp 11)), (2, (.tmp 12)), (3, (.tmp 13))], none, [11, 12, 13]⟩,
    ⟨(some 9), .alloc 38, none, []⟩,
    ⟨none, .store 38 (.tmp 9) (.tmp 14), none, [14]⟩])
  (.seq (.seq (.reg [⟨(some 10), .assign (.const (.int .i64 0)), none, []⟩])
  (.block 0 (.loop (.seq (.seq (.reg [⟨(some 15), .move (.tmp 10), none, []⟩,
    ⟨(some 16), .move (.tmp 0), none, []⟩,
    ⟨(some 17), .call ⟨.builtin .len, #[(.tmp 16)], #[40]⟩, none, [16]⟩,
    ⟨(some 18), .binOp .lss 3 (.tmp 15) (.tmp 17) 3, none, [15, 17]⟩])
  (.cond (.tmp 18) .skip
  (.exit 0)))
  (.seq (.block 1 (.drw [⟨(some 21), .fieldAddr 38 (.tmp 9) 0, none, []⟩,
    ⟨(some 22), .load 36 (.tmp 21), none, [21]⟩,
    ⟨(some 23), .move (.tmp 0), none, []⟩,
    ⟨(some 24), .move (.tmp 10), none, []⟩,
    ⟨(some 25), .indexAddr 40 (.tmp 23) (.tmp 24), none, [23, 24]⟩,
    ⟨(some 26), .load 46 (.tmp 25), none, [25]⟩,
    ⟨(some 27), .convert 46 3 (.tmp 26), none, [26]⟩,
    ⟨(some 28), .buildSlice 36 1 #[(0, (.tmp 27))], none, [27]⟩,
    ⟨(some 29), .call ⟨.builtin .append, #[(.tmp 22), (.tmp 28)], #[36, 36]⟩, none, [22, 28]⟩,
    ⟨(some 30), .fieldAddr 38 (.tmp 9) 0, none, []⟩,
    ⟨none, .store 36 (.tmp 30) (.tmp 29), none, [29, 30]⟩] [0, 1, 0, 0, 12, 28, 60, 124, 255, 511, 1023]))
  (.reg [⟨(some 19), .move (.tmp 10), none, []⟩,
    ⟨(some 20), .binOp .add 3 (.tmp 19) (.const (.int .i64 1)) 3, none, [19]⟩,
    ⟨(some 10), .assign (.tmp 20), none, [20]⟩]))))))
  (.seq (.reg [⟨(some 31), .load 38 (.tmp 9), none, []⟩,
    ⟨(some 32), .call ⟨.value (.func 26), #[(.tmp 31)], #[38]⟩, none, [31]⟩,
    ⟨none, .store 38 (.tmp 8) (.tmp 32), none, [32]⟩])
  .ret))))
theorem s12 : Stripped Try.prog 12 33 [.cell 8 38] C12 := ⟨Try.f12, _, [[[]], [[1], [2], [3], [11, 12, 13], [], [14]], [[]], [[], [], [16], [15, 17]], [[], [21], [], [], [23, 24], [25], [26], [27], [22, 28], [], [29, 30]], [[], [19], [20]], [[], [31], [32]]], [], Try.func12, rfl, by kernel_rfl, rfl, rfl, by kernel_rfl⟩
/- (probecard/probecardlaw38.Case).Content -/
def C13 : CC := (.seq (.reg [⟨(some 1), .box 24 (.tmp 0), none, [0]⟩,
    ⟨(some 2), .assign (.const (.slice none 0 0)), none, []⟩])
  (.seq (.reg [⟨(some 3), .assign (.const (.slice none 0 0)), none, []⟩])
  (.seq (.seq (.reg [⟨(some 4), .assign (.const (.int .i64 0)), none, []⟩])
  (.block 0 (.loop (.seq (.seq (.reg [⟨(some 5), .move (.tmp 4), none, []⟩,
    ⟨(some 6), .load 24 (.tmp 1), none, []⟩,
    ⟨(some 7), .call ⟨.value (.func 14), #[(.tmp 6)], #[24]⟩, none, [6]⟩,
    ⟨(some 8), .binOp .lss 3 (.tmp 5) (.tmp 7) 3, none, [5, 7]⟩])
  (.cond (.tmp 8) .skip
  (.exit 0)))
  (.seq (.block 1 (.reg [⟨(some 11), .move (.tmp 3), none, []⟩,
    ⟨(some 12), .fieldAddr 24 (.tmp 1) 1, none, []⟩,
    ⟨(some 13), .load 22 (.tmp 12), none, [12]⟩,
    ⟨(some 14), .move (.tmp 4), none, []⟩,
    ⟨(some 15), .binOp .shr 22 (.tmp 13) (.tmp 14) 3, none, [13, 14]⟩,
    ⟨(some 16), .binOp .and 22 (.tmp 15) (.const (.int .u16 1)) 22, none, [15]⟩,
    ⟨(some 17), .convert 22 46 (.tmp 16), none, [16]⟩,
    ⟨(some 18), .buildSlice 40 1 #[(0, (.tmp 17))], none, [17]⟩,
    ⟨(some 19), .call ⟨.builtin .append, #[(.tmp 11), (.tmp 18)], #[40, 40]⟩, none, [11, 18]⟩,
    ⟨(some 3), .assign (.tmp 19), none, [19]⟩]))
  (.reg [⟨(some 9), .move (.tmp 4), none, []⟩,
    ⟨(some 10), .binOp .add 3 (.tmp 9) (.const (.int .i64 1)) 3, none, [9]⟩,
    ⟨(some 4), .assign (.tmp 10), none, [10]⟩]))))))
  (.seq (.reg [⟨(some 20), .move (.tmp 3), none, []⟩,
    ⟨(some 2), .assign (.tmp 20), none, [20]⟩])
  .ret))))
theorem s13 : Stripped Try.prog 13 21 [.tmp 2] C13 := ⟨Try.f13, _, [[[0], []], [[]], [[]], [[], [], [6], [5, 7]], [[], [], [12], [], [13, 14], [15], [16], [17], [11, 18], [19]], [[], [9], [10]], [[], [20]]], [], Try.func13, rfl, by kernel_rfl, rfl, rfl, by kernel_rfl⟩
/- (probecard/probecardlaw38.Case).Cells -/
def C14 : CC := (.seq (.reg [⟨(some 1), .box 24 (.tmp 0), none, [0]⟩,
    ⟨(some 2), .assign (.const (.int .i64 0)), none, []⟩])
  (.seq (.reg [⟨(some 3), .fieldAddr 24 (.tmp 1) 0, none, []⟩,
    ⟨(some 4), .load 5 (.tmp 3), none, [3]⟩,
    ⟨(some 5), .binOp .rem 5 (.tmp 4) (.const (.int .u8 8)) 5, none, [4]⟩,
    ⟨(some 6), .convert 5 3 (.tmp 5), none, [5]⟩,
    ⟨(some 7), .binOp .add 3 (.const (.int .i64 2)) (.tmp 6) 3, none, [6]⟩,
    ⟨(some 2), .assign (.tmp 7), none, [7]⟩])
  .ret))
theorem s14 : Stripped Try.prog 14 8 [.tmp 2] C14 := ⟨Try.f14, _, [[[0], []], [[], [3], [4], [5], [6], [7]]], [], Try.func14, rfl, by kernel_rfl, rfl, rfl, by kernel_rfl⟩
/- (*probecard/defects.Memory).Write -/
def C15 : CC := (.seq (.reg [⟨(some 6), .assign (.const (.int .i64 0)), none, []⟩])
  (.seq (.reg [⟨(some 10), .move (.tmp 0), none, []⟩,
    ⟨(some 11), .move (.tmp 1), none, []⟩,
    ⟨(some 12), .call ⟨.value (.func 27), #[(.tmp 10), (.tmp 11)], #[27, 3]⟩, none, [10, 11]⟩,
    ⟨(some 7), .assign (.tmp 12), none, [12]⟩])
  (.seq (.seq (.reg [⟨(some 13), .move (.tmp 7), none, []⟩,
    ⟨(some 14), .binOp .eql 28 (.tmp 13) (.const (.int .i64 0)) 28, none, [13]⟩,
    ⟨(some 15), .move (.tmp 14), none, [14]⟩,
    ⟨(some 16), .move (.tmp 2), (some (15, true)), []⟩,
    ⟨(some 17), .call ⟨.value (.func 28), #[(.tmp 16)], #[46]⟩, (some (15, true)), [16]⟩,
    ⟨(some 18), .unOp .not 4 (.tmp 17), (some (15, true)), [17]⟩,
    ⟨(some 19), .pick (.tmp 15) (.tmp 18) (.const (.bool false)), none, [15, 18]⟩])
  (.cond (.tmp 19) (.reg [⟨(some 7), .assign (.const (.int .i64 1)), none, []⟩])
  .skip))
  (.seq (.seq (.reg [⟨(some 20), .move (.tmp 7), none, []⟩,
    ⟨(some 21), .binOp .neq 28 (.tmp 20) (.const (.int .i64 0)) 28, none, [20]⟩])
  (.cond (.tmp 21) (.seq (.reg [⟨(some 22), .move (.tmp 7), none, []⟩,
    ⟨(some 6), .assign (.tmp 22), none, [22]⟩])
  .ret)
  .skip))
  (.seq (.seq (.reg [⟨(some 23), .move (.tmp 0), none, []⟩,
    ⟨(some 24), .move (.tmp 1), none, []⟩,
    ⟨(some 25), .call ⟨.value (.func 29), #[(.tmp 23), (.tmp 24)], #[27, 3]⟩, none, [23, 24]⟩,
    ⟨(some 26), .call ⟨.builtin .len, #[(.tmp 25)], #[36]⟩, none, []⟩,
    ⟨(some 27), .move (.const (.int .i64 0)), none, []⟩])
  (.block 0 (.loop (.seq (.reg [⟨(some 28), .binOp .lss 3 (.tmp 27) (.tmp 26) 3, none, []⟩])
  (.seq (.cond (.tmp 28) .skip
  (.exit 0))
  (.seq (.block 1 (.seq (.reg [⟨(some 29), .indexAddr 36 (.tmp 25) (.tmp 27), none, []⟩,
    ⟨(some 30), .load 3 (.tmp 29), none, [29]⟩,
    ⟨(some 9), .assign (.tmp 30), none, [30]⟩])
  (.reg [⟨(some 31), .move (.tmp 0), none, []⟩,
    ⟨(some 32), .move (.tmp 9), none, []⟩,
    ⟨(some 33), .move (.tmp 2), none, []⟩,
    ⟨(some 34), .call ⟨.value (.func 30), #[(.tmp 31), (.tmp 32), (.tmp 33)], #[27, 3, 46]⟩, none, [31, 32, 33, 34]⟩])))
  (.reg [⟨(some 35), .binOp .add 3 (.tmp 27) (.const (.int .i64 1)) 3, none, []⟩,
    ⟨(some 27), .move (.tmp 35), none, [35]⟩])))))))
  (.seq (.reg [⟨(some 6), .assign (.const (.int .i64 0)), none, []⟩])
  .ret))))))
theorem s15 : Stripped Try.prog 15 36 [.tmp 6] C15 := ⟨Try.f15, _, [[[]], [[], [], [10, 11], [12]], [[], [13], [14], [], [16], [17], [15, 18]], [[]], [[], [20]], [[], [22]], [[], [], [23, 24], [], []], [[]], [[], [29], [30]], [[], [], [], [31, 32, 33, 34]], [[], [35]], [[]]], [], Try.func15, rfl, by kernel_rfl, rfl, rfl, by kernel_rfl⟩
/- probecard/probecardref38.Write -/
def C16 : CC := (.seq (.reg [⟨(some 3), .box 38 (.tmp 0), none, [0]⟩,
    ⟨(some 6), .alloc 38, none, []⟩])
  (.seq (.reg [⟨(some 8), .load 38 (.tmp 3), none, []⟩,
    ⟨(some 7), .alloc 38, none, []⟩,
    ⟨none, .store 38 (.tmp 7) (.tmp 8), none, [8]⟩])
  (.seq (.reg [⟨(some 9), .fieldAddr 38 (.tmp 3) 0, none, []⟩,
    ⟨(some 10), .load 36 (.tmp 9), none, [9]⟩,
    ⟨(some 11), .call ⟨.builtin .append, #[(.const (.slice none 0 0)), (.tmp 10)], #[36, 36]⟩, none, [10]⟩,
    ⟨(some 12), .fieldAddr 38 (.tmp 7) 0, none, []⟩,
    ⟨none, .store 36 (.tmp 12) (.tmp 11), none, [11, 12]⟩])
  (.seq (.seq (.reg [⟨(some 13), .move (.tmp 1), none, []⟩,
    ⟨(some 14), .fieldAddr 38 (.tmp 3) 2, none, []⟩,
    ⟨(some 15), .load 3 (.tmp 14), none, [14]⟩,
    ⟨(some 16), .binOp .eql 3 (.tmp 13) (.tmp 15) 3, none, [13, 15]⟩,
    ⟨(some 17), .move (.tmp 16), none, [16]⟩,
    ⟨(some 18), .fieldAddr 38 (.tmp 3) 1, (some (17, true)), []⟩,
    ⟨(some 19), .load 3 (.tmp 18), (some (17, true)), [18]⟩,
    ⟨(some 20), .binOp .eql 3 (.tmp 19) (.const (.int .i64 14)) 3, (some (17, true)), [19]⟩,
    ⟨(some 21), .move (.tmp 20), (some (17, true)), [20]⟩,
    ⟨(some 22), .fieldAddr 38 (.tmp 3) 1, (some (21, false)), []⟩,
    ⟨(some 23), .load 3 (.tmp 22), (some (21, false)), [22]⟩,
    ⟨(some 24), .binOp .eql 3 (.tmp 23) (.const (.int .i64 15)) 3, (some (21, false)), [23]⟩,
    ⟨(some 25), .pick (.tmp 21) (.const (.bool true)) (.tmp 24), (some (17, true)), [21, 24]⟩,
    ⟨(some 26), .pick (.tmp 17) (.tmp 25) (.const (.bool false)), none, [17, 25]⟩])
  (.cond (.tmp 26) (.seq (.reg [⟨(some 27), .load 38 (.tmp 7), none, []⟩,
    ⟨none, .store 38 (.tmp 6) (.tmp 27), none, [27]⟩])
  .ret)
  .skip))
  (.seq (.seq (.reg [⟨(some 28), .move (.tmp 1), none, []⟩,
    ⟨(some 29), .fieldAddr 38 (.tmp 3) 2, none, []⟩,
    ⟨(some 30), .load 3 (.tmp 29), none, [29]⟩,
    ⟨(some 31), .binOp .eql 3 (.tmp 28) (.tmp 30) 3, none, [28, 30]⟩,
    ⟨(some 32), .move (.tmp 31), none, [31]⟩,
    ⟨(some 33), .fieldAddr 38 (.tmp 3) 1, (some (32, true)), []⟩,
    ⟨(some 34), .load 3 (.tmp 33), (some (32, true)), [33]⟩,
    ⟨(some 35), .binOp .eql 3 (.tmp 34) (.const (.int .i64 16)) 3, (some (32, true)), [34]⟩,
    ⟨(some 36), .pick (.tmp 32) (.tmp 35) (.const (.bool false)), none, [32, 35]⟩])
  (.cond (.tmp 36) (.seq (.reg [⟨(some 37), .load 38 (.tmp 7), none, []⟩,
    ⟨(some 38), .fieldAddr 38 (.tmp 3) 3, none, []⟩,
    ⟨(some 39), .load 3 (.tmp 38), none, [38]⟩,
    ⟨(some 40), .move (.tmp 2), none, []⟩,
    ⟨(some 41), .call ⟨.value (.func 31), #[(.tmp 37), (.tmp 39), (.tmp 40)], #[38, 3, 3]⟩, none, [37, 39, 40]⟩,
    ⟨none, .store 38 (.tmp 6) (.tmp 41), none, [41]⟩])
  .ret)
  .skip))
  (.seq (.reg [⟨(some 42), .load 38 (.tmp 7), none, []⟩,
    ⟨(some 43), .move (.tmp 1), none, []⟩,
    ⟨(some 44), .move (.tmp 2), none, []⟩,
    ⟨(some 45), .call ⟨.value (.func 31), #[(.tmp 42), (.tmp 43), (.tmp 44)], #[38, 3, 3]⟩, none, [42, 43, 44]⟩,
    ⟨none, .store 38 (.tmp 7) (.tmp 45), none, [45]⟩])
  (.seq (.seq (.reg [⟨(some 46), .move (.tmp 1), none, []⟩,
    ⟨(some 47), .fieldAddr 38 (.tmp 3) 2, none, []⟩,
    ⟨(some 48), .load 3 (.tmp 47), none, [47]⟩,
    ⟨(some 49), .binOp .eql 3 (.tmp 46) (.tmp 48) 3, none, [46, 48]⟩,
    ⟨(some 50), .move (.tmp 49), none, [49]⟩,
    ⟨(some 51), .fieldAddr 38 (.tmp 3) 1, (some (50, true)), []⟩,
    ⟨(some 52), .load 3 (.tmp 51), (some (50, true)), [51]⟩,
    ⟨(some 53), .binOp .geq 3 (.tmp 52) (.const (.int .i64 17)) 3, (some (50, true)), [52]⟩,
    ⟨(some 54), .pick (.tmp 50) (.tmp 53) (.const (.bool false)), none, [50, 53]⟩])
  (.cond (.tmp 54) (.reg [⟨(some 55), .load 38 (.tmp 7), none, []⟩,
    ⟨(some 56), .fieldAddr 38 (.tmp 3) 3, none, []⟩,
    ⟨(some 57), .load 3 (.tmp 56), none, [56]⟩,
    ⟨(some 58), .move (.tmp 2), none, []⟩,
    ⟨(some 59), .call ⟨.value (.func 31), #[(.tmp 55), (.tmp 57), (.tmp 58)], #[38, 3, 3]⟩, none, [55, 57, 58]⟩,
    ⟨none, .store 38 (.tmp 7) (.tmp 59), none, [59]⟩])
  .skip))
  (.seq (.reg [⟨(some 60), .load 38 (.tmp 7), none, []⟩,
    ⟨none, .store 38 (.tmp 6) (.tmp 60), none, [60]⟩])
  .ret))))))))
theorem s16 : Stripped Try.prog 16 61 [.cell 6 38] C16 := ⟨Try.f16, _, [[[0], []], [[], [], [8]], [[], [9], [10], [], [11, 12]], [[], [], [14], [13, 15], [16], [], [18], [19], [20], [], [22], [23], [21, 24], [17, 25]], [[], [27]], [[], [], [29], [28, 30], [31], [], [33], [34], [32, 35]], [[], [], [38], [], [37, 39, 40], [41]], [[], [], [], [42, 43, 44], [45]], [[], [], [47], [46, 48], [49], [], [51], [52], [50, 53]], [[], [], [56], [], [55, 57, 58], [59]], [[], [60]]], [], Try.func16, rfl, by kernel_rfl, rfl, rfl, by kernel_rfl⟩
/- (*probecard/defects.Memory).Read -/
def C17 : CC := (.seq (.reg [⟨(some 4), .assign (.const (.int .u8 0)), none, []⟩,
    ⟨(some 5), .assign (.const (.int .i64 0)), none, []⟩])
  (.seq (.seq (.reg [⟨(some 8), .move (.tmp 0), none, []⟩,
    ⟨(some 9), .move (.tmp 1), none, []⟩,
    ⟨(some 10), .call ⟨.value (.func 27), #[(.tmp 8), (.tmp 9)], #[27, 3]⟩, none, [8, 9]⟩,
    ⟨(some 6), .assign (.tmp 10), none, [10]⟩])
  (.seq (.reg [⟨(some 11), .move (.tmp 6), none, []⟩,
    ⟨(some 12), .binOp .neq 28 (.tmp 11) (.const (.int .i64 0)) 28, none, [11]⟩])
  (.cond (.tmp 12) (.seq (.reg [⟨(some 13), .move (.tmp 6), none, []⟩,
    ⟨(some 4), .assign (.const (.int .u8 0)), none, []⟩,
    ⟨(some 5), .assign (.tmp 13), none, [13]⟩])
  .ret)
  .skip)))
  (.seq (.reg [⟨(some 14), .move (.tmp 0), none, []⟩,
    ⟨(some 15), .move (.tmp 1), none, []⟩,
    ⟨(some 16), .call ⟨.value (.func 29), #[(.tmp 14), (.tmp 15)], #[27, 3]⟩, none, [14, 15]⟩,
    ⟨(some 7), .assign (.tmp 16), none, [16]⟩])
  (.seq (.block 0 (.seq (.reg [⟨(some 18), .move (.tmp 7), none, []⟩,
    ⟨(some 19), .call ⟨.builtin .len, #[(.tmp 18)], #[36]⟩, none, [18]⟩,
    ⟨(some 20), .binOp .eql 3 (.tmp 19) (.const (.int .i64 0)) 3, none, [19]⟩,
    ⟨(some 17), .assign (.tmp 20), none, [20]⟩])
  (.cond (.tmp 17) (.seq (.reg [⟨(some 21), .move (.tmp 0), none, []⟩,
    ⟨(some 22), .nilCheck (.tmp 21), none, [21]⟩,
    ⟨(some 23), .fieldAddr 57 (.tmp 22) 0, none, [22]⟩,
    ⟨(some 24), .fieldAddr 33 (.tmp 23) 0, none, [23]⟩,
    ⟨(some 25), .load 31 (.tmp 24), none, [24]⟩,
    ⟨(some 26), .binOp .sub 31 (.tmp 25) (.const (.int .u8 14)) 31, none, [25]⟩,
    ⟨(some 4), .assign (.tmp 26), none, [26]⟩,
    ⟨(some 5), .assign (.const (.int .i64 0)), none, []⟩])
  .ret)
  (.seq (.reg [⟨(some 28), .move (.tmp 7), none, []⟩,
    ⟨(some 29), .call ⟨.builtin .len, #[(.tmp 28)], #[36]⟩, none, [28]⟩,
    ⟨(some 30), .binOp .eql 3 (.tmp 29) (.const (.int .i64 2)) 3, none, [29]⟩,
    ⟨(some 31), .move (.tmp 30), none, [30]⟩,
    ⟨(some 32), .move (.tmp 0), (some (31, true)), []⟩,
    ⟨(some 33), .nilCheck (.tmp 32), (some (31, true)), [32]⟩,
    ⟨(some 34), .fieldAddr 57 (.tmp 33) 0, (some (31, true)), [33]⟩,
    ⟨(some 35), .fieldAddr 33 (.tmp 34) 0, (some (31, true)), [34]⟩,
    ⟨(some 36), .load 31 (.tmp 35), (some (31, true)), [35]⟩,
    ⟨(some 37), .binOp .eql 31 (.tmp 36) (.const (.int .u8 17)) 31, (some (31, true)), [36]⟩,
    ⟨(some 38), .pick (.tmp 31) (.tmp 37) (.const (.bool false)), none, [31, 37]⟩,
    ⟨(some 27), .assign (.tmp 38), none, [38]⟩])
  (.cond (.tmp 27) (.seq (.drw [⟨(some 39), .move (.tmp 0), none, []⟩,
    ⟨(some 40), .nilCheck (.tmp 39), none, [39]⟩,
    ⟨(some 41), .fieldAddr 57 (.tmp 40) 1, none, [40]⟩,
    ⟨(some 42), .load 40 (.tmp 41), none, [41]⟩,
    ⟨(some 43), .move (.tmp 7), none, []⟩,
    ⟨(some 44), .indexAddr 36 (.tmp 43) (.const (.int .i64 0)), none, [43]⟩,
    ⟨(some 45), .load 3 (.tmp 44), none, [44]⟩,
    ⟨(some 46), .indexAddr 40 (.tmp 42) (.tmp 45), none, [42, 45]⟩,
    ⟨(some 47), .load 46 (.tmp 46), none, [46]⟩,
    ⟨(some 48), .move (.tmp 0), none, []⟩,
    ⟨(some 49), .nilCheck (.tmp 48), none, [48]⟩,
    ⟨(some 50), .fieldAddr 57 (.tmp 49) 1, none, [49]⟩,
    ⟨(some 51), .load 40 (.tmp 50), none, [50]⟩,
    ⟨(some 52), .move (.tmp 7), none, []⟩,
    ⟨(some 53), .indexAddr 36 (.tmp 52) (.const (.int .i64 1)), none, [52]⟩,
    ⟨(some 54), .load 3 (.tmp 53), none, [53]⟩,
    ⟨(some 55), .indexAddr 40 (.tmp 51) (.tmp 54), none, [51, 54]⟩,
    ⟨(some 56), .load 46 (.tmp 55), none, [55]⟩,
    ⟨(some 57), .binOp .and 46 (.tmp 47) (.tmp 56) 46, none, [47, 56]⟩,
    ⟨(some 4), .assign (.tmp 57), none, [57]⟩,
    ⟨(some 5), .assign (.const (.int .i64 0)), none, []⟩] [0, 1, 3, 7, 0, 16, 48, 127, 255, 0, 512, 1536, 3584, 0, 8192, 24576, 65024, 130560, 262143, 524287, 1048575])
  .ret)
  (.seq (.reg [⟨(some 59), .move (.tmp 7), none, []⟩,
    ⟨(some 60), .call ⟨.builtin .len, #[(.tmp 59)], #[36]⟩, none, [59]⟩,
    ⟨(some 61), .binOp .eql 3 (.tmp 60) (.const (.int .i64 2)) 3, none, [60]⟩,
    ⟨(some 58), .assign (.tmp 61), none, [61]⟩])
  (.cond (.tmp 58) (.seq (.drw [⟨(some 62), .move (.tmp 0), none, []⟩,
    ⟨(some 63), .nilCheck (.tmp 62), none, [62]⟩,
    ⟨(some 64), .fieldAddr 57 (.tmp 63) 1, none, [63]⟩,
    ⟨(some 65), .load 40 (.tmp 64), none, [64]⟩,
    ⟨(some 66), .move (.tmp 7), none, []⟩,
    ⟨(some 67), .indexAddr 36 (.tmp 66) (.const (.int .i64 0)), none, [66]⟩,
    ⟨(some 68), .load 3 (.tmp 67), none, [67]⟩,
    ⟨(some 69), .indexAddr 40 (.tmp 65) (.tmp 68), none, [65, 68]⟩,
    ⟨(some 70), .load 46 (.tmp 69), none, [69]⟩,
    ⟨(some 71), .move (.tmp 0), none, []⟩,
    ⟨(some 72), .nilCheck (.tmp 71), none, [71]⟩,
    ⟨(some 73), .fieldAddr 57 (.tmp 72) 1, none, [72]⟩,
    ⟨(some 74), .load 40 (.tmp 73), none, [73]⟩,
    ⟨(some 75), .move (.tmp 7), none, []⟩,
    ⟨(some 76), .indexAddr 36 (.tmp 75) (.const (.int .i64 1)), none, [75]⟩,
    ⟨(some 77), .load 3 (.tmp 76), none, [76]⟩,
    ⟨(some 78), .indexAddr 40 (.tmp 74) (.tmp 77), none, [74, 77]⟩,
    ⟨(some 79), .load 46 (.tmp 78), none, [78]⟩,
    ⟨(some 80), .binOp .or 46 (.tmp 70) (.tmp 79) 46, none, [70, 79]⟩,
    ⟨(some 4), .assign (.tmp 80), none, [80]⟩,
    ⟨(some 5), .assign (.const (.int .i64 0)), none, []⟩] [0, 1, 3, 7, 0, 16, 48, 127, 255, 0, 512, 1536, 3584, 0, 8192, 24576, 65024, 130560, 262143, 524287, 1048575])
  .ret)
  .skip)))))))
  (.seq (.drw [⟨(some 81), .move (.tmp 0), none, []⟩,
    ⟨(some 82), .nilCheck (.tmp 81), none, [81]⟩,
    ⟨(some 83), .fieldAddr 57 (.tmp 82) 1, none, [82]⟩,
    ⟨(some 84), .load 40 (.tmp 83), none, [83]⟩,
    ⟨(some 85), .move (.tmp 7), none, []⟩,
    ⟨(some 86), .indexAddr 36 (.tmp 85) (.const (.int .i64 0)), none, [85]⟩,
    ⟨(some 87), .load 3 (.tmp 86), none, [86]⟩,
    ⟨(some 88), .indexAddr 40 (.tmp 84) (.tmp 87), none, [84, 87]⟩,
    ⟨(some 89), .load 46 (.tmp 88), none, [88]⟩,
    ⟨(some 4), .assign (.tmp 89), none, [89]⟩,
    ⟨(some 5), .assign (.const (.int .i64 0)), none, []⟩] [0, 1, 3, 7, 0, 16, 48, 127, 255, 511, 1023])
  .ret)))))
theorem s17 : Stripped Try.prog 17 90 [.tmp 4, .tmp 5] C17 := ⟨Try.f17, _, [[[], []], [[], [], [8, 9], [10]], [[], [11]], [[], [], [13]], [[], [], [14, 15], [16]], [[], [18], [19], [20]], [[], [21], [22], [23], [24], [25], [26], []], [[], [28], [29], [30], [], [32], [33], [34], [35], [36], [31, 37], [38]], [[], [39], [40], [41], [], [43], [44], [42, 45], [46], [], [48], [49], [50], [], [52], [53], [51, 54], [55], [47, 56], [57], []], [[], [59], [60], [61]], [[], [62], [63], [64], [], [66], [67], [65, 68], [69], [], [71], [72], [73], [], [75], [76], [74, 77], [78], [70, 79], [80], []], [[], [81], [82], [83], [], [85], [86], [84, 87], [88], [89], []]], [], Try.func17, rfl, by kernel_rfl, rfl, rfl, by kernel_rfl⟩
/- probecard/probecardref38.Read -/
def C18 : CC := (.seq (.reg [⟨(some 2), .box 38 (.tmp 0), none, [0]⟩,
    ⟨(some 4), .assign (.const (.int .i64 0)), none, []⟩])
  (.seq (.seq (.reg [⟨(some 5), .move (.tmp 1), none, []⟩,
    ⟨(some 6), .fieldAddr 38 (.tmp 2) 2, none, []⟩,
    ⟨(some 7), .load 3 (.tmp 6), none, [6]⟩,
    ⟨(some 8), .binOp .eql 3 (.tmp 5) (.tmp 7) 3, none, [5, 7]⟩])
  (.cond (.tmp 8) (.seq (.reg [⟨(some 9), .fieldAddr 38 (.tmp 2) 1, none, []⟩,
    ⟨(some 10), .load 3 (.tmp 9), none, [9]⟩])
  (.block 0 (.seq (.seq (.reg [⟨(some 12), .binOp .eql 3 (.tmp 10) (.const (.int .i64 14)) 3, none, []⟩,
    ⟨(some 11), .assign (.tmp 12), none, [12]⟩])
  (.cond (.tmp 11) .skip
  (.reg [⟨(some 13), .binOp .eql 3 (.tmp 10) (.const (.int .i64 15)) 3, none, []⟩,
    ⟨(some 11), .assign (.tmp 13), none, [13]⟩])))
  (.cond (.tmp 11) (.seq (.reg [⟨(some 14), .fieldAddr 38 (.tmp 2) 1, none, []⟩,
    ⟨(some 15), .load 3 (.tmp 14), none, [14]⟩,
    ⟨(some 16), .binOp .sub 3 (.tmp 15) (.const (.int .i64 14)) 3, none, [15]⟩,
    ⟨(some 4), .assign (.tmp 16), none, [16]⟩])
  .ret)
  (.seq (.reg [⟨(some 18), .binOp .eql 3 (.tmp 10) (.const (.int .i64 16)) 3, none, []⟩,
    ⟨(some 17), .assign (.tmp 18), none, [18]⟩])
  (.cond (.tmp 17) (.seq (.reg [⟨(some 19), .fieldAddr 38 (.tmp 2) 0, none, []⟩,
    ⟨(some 20), .load 36 (.tmp 19), none, [19]⟩,
    ⟨(some 21), .fieldAddr 38 (.tmp 2) 3, none, []⟩,
    ⟨(some 22), .load 3 (.tmp 21), none, [21]⟩,
    ⟨(some 23), .indexAddr 36 (.tmp 20) (.tmp 22), none, [20, 22]⟩,
    ⟨(some 24), .load 3 (.tmp 23), none, [23]⟩,
    ⟨(some 4), .assign (.tmp 24), none, [24]⟩])
  .ret)
  (.seq (.reg [⟨(some 26), .binOp .eql 3 (.tmp 10) (.const (.int .i64 17)) 3, none, []⟩,
    ⟨(some 25), .assign (.tmp 26), none, [26]⟩])
  (.cond (.tmp 25) (.seq (.drw [⟨(some 27), .fieldAddr 38 (.tmp 2) 0, none, []⟩,
    ⟨(some 28), .load 36 (.tmp 27), none, [27]⟩,
    ⟨(some 29), .move (.tmp 1), none, []⟩,
    ⟨(some 30), .indexAddr 36 (.tmp 28) (.tmp 29), none, [28, 29]⟩,
    ⟨(some 31), .load 3 (.tmp 30), none, [30]⟩,
    ⟨(some 32), .fieldAddr 38 (.tmp 2) 0, none, []⟩,
    ⟨(some 33), .load 36 (.tmp 32), none, [32]⟩,
    ⟨(some 34), .fieldAddr 38 (.tmp 2) 3, none, []⟩,
    ⟨(some 35), .load 3 (.tmp 34), none, [34]⟩,
    ⟨(some 36), .indexAddr 36 (.tmp 33) (.tmp 35), none, [33, 35]⟩,
    ⟨(some 37), .load 3 (.tmp 36), none, [36]⟩,
    ⟨(some 38), .binOp .mul 3 (.tmp 31) (.tmp 37) 3, none, [31, 37]⟩,
    ⟨(some 4), .assign (.tmp 38), none, [38]⟩] [0, 1, 0, 7, 15, 0, 32, 0, 128, 480, 992, 2047, 4095])
  .ret)
  (.seq (.reg [⟨(some 40), .binOp .eql 3 (.tmp 10) (.const (.int .i64 18)) 3, none, []⟩,
    ⟨(some 39), .assign (.tmp 40), none, [40]⟩])
  (.cond (.tmp 39) (.seq (.drw [⟨(some 41), .fieldAddr 38 (.tmp 2) 0, none, []⟩,
    ⟨(some 42), .load 36 (.tmp 41), none, [41]⟩,
    ⟨(some 43), .move (.tmp 1), none, []⟩,
    ⟨(some 44), .indexAddr 36 (.tmp 42) (.tmp 43), none, [42, 43]⟩,
    ⟨(some 45), .load 3 (.tmp 44), none, [44]⟩,
    ⟨(some 46), .fieldAddr 38 (.tmp 2) 0, none, []⟩,
    ⟨(some 47), .load 36 (.tmp 46), none, [46]⟩,
    ⟨(some 48), .fieldAddr 38 (.tmp 2) 3, none, []⟩,
    ⟨(some 49), .load 3 (.tmp 48), none, [48]⟩,
    ⟨(some 50), .indexAddr 36 (.tmp 47) (.tmp 49), none, [47, 49]⟩,
    ⟨(some 51), .load 3 (.tmp 50), none, [50]⟩,
    ⟨(some 52), .call ⟨.builtin .max, #[(.tmp 45), (.tmp 51)], #[3, 3]⟩, none, [45, 51]⟩,
    ⟨(some 4), .assign (.tmp 52), none, [52]⟩] [0, 1, 0, 7, 15, 0, 32, 0, 128, 480, 992, 2047, 4095])
  .ret)
  .skip))))))))))
  .skip))
  (.seq (.reg [⟨(some 53), .fieldAddr 38 (.tmp 2) 0, none, []⟩,
    ⟨(some 54), .load 36 (.tmp 53), none, [53]⟩,
    ⟨(some 55), .move (.tmp 1), none, []⟩,
    ⟨(some 56), .indexAddr 36 (.tmp 54) (.tmp 55), none, [54, 55]⟩,
    ⟨(some 57), .load 3 (.tmp 56), none, [56]⟩,
    ⟨(some 4), .assign (.tmp 57), none, [57]⟩])
  .ret)))
theorem s18 : Stripped Try.prog 18 58 [.tmp 4] C18 := ⟨Try.f18, _, [[[0], []], [[], [], [6], [5, 7]], [[], [9]], [[], [12]], [[], [13]], [[], [14], [15], [16]], [[], [18]], [[], [19], [], [21], [20, 22], [23], [24]], [[], [26]], [[], [27], [], [28, 29], [30], [], [32], [], [34], [33, 35], [36], [31, 37], [38]], [[], [40]], [[], [41], [], [42, 43], [44], [], [46], [], [48], [47, 49], [50], [45, 51], [52]], [[], [53], [], [54, 55], [56], [57]]], [], Try.func18, rfl, by kernel_rfl, rfl, rfl, by kernel_rfl⟩
/- (*probecard/defects.Memory).Cells -/
def C19 : CC := (.seq (.reg [⟨(some 2), .assign (.const (.slice none 0 0)), none, []⟩])
  (.seq (.seq (.reg [⟨(some 3), .move (.tmp 0), none, []⟩,
    ⟨(some 4), .binOp .eql 27 (.tmp 3) (.const (.pointer none)) 27, none, [3]⟩])
  (.cond (.tmp 4) (.seq (.reg [⟨(some 2), .assign (.const (.slice none 0 0)), none, []⟩])
  .ret)
  .skip))
  (.seq (.reg [⟨(some 5), .move (.tmp 0), none, []⟩,
    ⟨(some 6), .nilCheck (.tmp 5), none, [5]⟩,
    ⟨(some 7), .fieldAddr 57 (.tmp 6) 1, none, [6]⟩,
    ⟨(some 8), .load 40 (.tmp 7), none, [7]⟩,
    ⟨(some 9), .call ⟨.value (.func 33), #[(.tmp 8)], #[40]⟩, none, [8]⟩,
    ⟨(some 10), .call ⟨.value (.func 32), #[(.tmp 9)], #[40]⟩, none, [9]⟩,
    ⟨(some 2), .assign (.tmp 10), none, [10]⟩])
  .ret)))
theorem s19 : Stripped Try.prog 19 11 [.tmp 2] C19 := ⟨Try.f19, _, [[[]], [[], [3]], [[]], [[], [5], [6], [7], [8], [9], [10]]], [], Try.func19, rfl, by kernel_rfl, rfl, rfl, by kernel_rfl⟩
/- probecard/probecardref38.Valid -/
def C20 : CC := (.seq (.reg [⟨(some 8), .assign (.const (.bool false)), none, []⟩])
  (.seq (.seq (.reg [⟨(some 9), .move (.tmp 0), none, []⟩,
    ⟨(some 10), .binOp .lss 3 (.tmp 9) (.const (.int .i64 0)) 3, none, [9]⟩,
    ⟨(some 11), .move (.tmp 10), none, [10]⟩,
    ⟨(some 12), .move (.tmp 0), (some (11, false)), []⟩,
    ⟨(some 13), .binOp .gtr 3 (.tmp 12) (.const (.int .i64 18)) 3, (some (11, false)), [12]⟩,
    ⟨(some 14), .pick (.tmp 11) (.const (.bool true)) (.tmp 13), none, [11, 13]⟩,
    ⟨(some 15), .move (.tmp 14), none, [14]⟩,
    ⟨(some 16), .move (.tmp 1), (some (15, false)), []⟩,
    ⟨(some 17), .binOp .lss 3 (.tmp 16) (.const (.int .i64 0)) 3, (some (15, false)), [16]⟩,
    ⟨(some 18), .pick (.tmp 15) (.const (.bool true)) (.tmp 17), none, [15, 17]⟩,
    ⟨(some 19), .move (.tmp 18), none, [18]⟩,
    ⟨(some 20), .move (.tmp 1), (some (19, false)), []⟩,
    ⟨(some 21), .move (.tmp 3), (some (19, false)), []⟩,
    ⟨(some 22), .binOp .geq 3 (.tmp 20) (.tmp 21) 3, (some (19, false)), [20, 21]⟩,
    ⟨(some 23), .pick (.tmp 19) (.const (.bool true)) (.tmp 22), none, [19, 22]⟩])
  (.cond (.tmp 23) (.seq (.reg [⟨(some 8), .assign (.const (.bool false)), none, []⟩])
  .ret)
  .skip))
  (.seq (.seq (.reg [⟨(some 24), .move (.tmp 0), none, []⟩,
    ⟨(some 25), .binOp .leq 3 (.tmp 24) (.const (.int .i64 3)) 3, none, [24]⟩,
    ⟨(some 26), .move (.tmp 25), none, [25]⟩,
    ⟨(some 27), .move (.tmp 0), (some (26, false)), []⟩,
    ⟨(some 28), .binOp .eql 3 (.tmp 27) (.const (.int .i64 14)) 3, (some (26, false)), [27]⟩,
    ⟨(some 29), .pick (.tmp 26) (.const (.bool true)) (.tmp 28), none, [26, 28]⟩,
    ⟨(some 30), .move (.tmp 29), none, [29]⟩,
    ⟨(some 31), .move (.tmp 0), (some (30, false)), []⟩,
    ⟨(some 32), .binOp .eql 3 (.tmp 31) (.const (.int .i64 15)) 3, (some (30, false)), [31]⟩,
    ⟨(some 33), .pick (.tmp 30) (.const (.bool true)) (.tmp 32), none, [30, 32]⟩])
  (.cond (.tmp 33) (.seq (.reg [⟨(some 34), .move (.tmp 2), none, []⟩,
    ⟨(some 35), .binOp .eql 3 (.tmp 34) (.const (.int .i64 0)) 3, none, [34]⟩,
    ⟨(some 8), .assign (.tmp 35), none, [35]⟩])
  .ret)
  .skip))
  (.seq (.reg [⟨(some 36), .move (.tmp 2), none, []⟩,
    ⟨(some 37), .binOp .geq 3 (.tmp 36) (.const (.int .i64 0)) 3, none, [36]⟩,
    ⟨(some 38), .move (.tmp 37), none, [37]⟩,
    ⟨(some 39), .move (.tmp 2), (some (38, true)), []⟩,
    ⟨(some 40), .move (.tmp 3), (some (38, true)), []⟩,
    ⟨(some 41), .binOp .lss 3 (.tmp 39) (.tmp 40) 3, (some (38, true)), [39, 40]⟩,
    ⟨(some 42), .pick (.tmp 38) (.tmp 41) (.const (.bool false)), none, [38, 41]⟩,
    ⟨(some 43), .move (.tmp 42), none, [42]⟩,
    ⟨(some 44), .move (.tmp 2), (some (43, true)), []⟩,
    ⟨(some 45), .move (.tmp 1), (some (43, true)), []⟩,
    ⟨(some 46), .binOp .neq 3 (.tmp 44) (.tmp 45) 3, (some (43, true)), [44, 45]⟩,
    ⟨(some 47), .pick (.tmp 43) (.tmp 46) (.const (.bool false)), none, [43, 46]⟩,
    ⟨(some 8), .assign (.tmp 47), none, [47]⟩])
  .ret))))
theorem s20 : Stripped Try.prog 20 48 [.tmp 8] C20 := ⟨Try.f20, _, [[[]], [[], [9], [10], [], [12], [11, 13], [14], [], [16], [15, 17], [18], [], [], [20, 21], [19, 22]], [[]], [[], [24], [25], [], [27], [26, 28], [29], [], [31], [30, 32]], [[], [34], [35]], [[], [36], [37], [], [], [39, 40], [38, 41], [42], [], [], [44, 45], [43, 46], [47]]], [], Try.func20, rfl, by kernel_rfl, rfl, rfl, by kernel_rfl⟩
/- probecard/defects.Check -/
def C21 : CC := (.seq (.reg [⟨(some 2), .box 33 (.tmp 0), none, [0]⟩,
    ⟨(some 3), .box 3 (.tmp 1), none, [1]⟩,
    ⟨(some 4), .assign (.const (.int .i64 0)), none, []⟩])
  (.seq (.reg [⟨(some 6), .makeFunc (.func 34) #[] #[(.tmp 3)], none, []⟩,
    ⟨(some 5), .assign (.tmp 6), none, [6]⟩])
  (.seq (.block 0 (.seq (.reg [⟨(some 8), .load 3 (.tmp 3), none, []⟩,
    ⟨(some 9), .binOp .lss 3 (.tmp 8) (.const (.int .i64 1)) 3, none, [8]⟩,
    ⟨(some 7), .assign (.tmp 9), none, [9]⟩])
  (.cond (.tmp 7) (.seq (.reg [⟨(some 4), .assign (.const (.int .i64 1)), none, []⟩])
  .ret)
  (.seq (.reg [⟨(some 11), .load 3 (.tmp 3), none, []⟩,
    ⟨(some 12), .binOp .gtr 3 (.tmp 11) (.const (.int .i64 1024)) 3, none, [11]⟩,
    ⟨(some 10), .assign (.tmp 12), none, [12]⟩])
  (.cond (.tmp 10) (.seq (.reg [⟨(some 4), .assign (.const (.int .i64 3)), none, []⟩])
  .ret)
  (.seq (.reg [⟨(some 14), .fieldAddr 33 (.tmp 2) 0, none, []⟩,
    ⟨(some 15), .load 31 (.tmp 14), none, [14]⟩,
    ⟨(some 16), .binOp .geq 31 (.tmp 15) (.const (.int .u8 19)) 31, none, [15]⟩,
    ⟨(some 17), .move (.tmp 16), none, [16]⟩,
    ⟨(some 18), .move (.tmp 5), (some (17, false)), []⟩,
    ⟨(some 19), .fieldAddr 33 (.tmp 2) 1, (some (17, false)), []⟩,
    ⟨(some 20), .load 3 (.tmp 19), (some (17, false)), [19]⟩,
    ⟨(some 21), .call ⟨.value (.tmp 18), #[(.tmp 20)], #[3]⟩, (some (17, false)), [18, 20]⟩,
    ⟨(some 22), .unOp .not 4 (.tmp 21), (some (17, false)), [21]⟩,
    ⟨(some 23), .pick (.tmp 17) (.const (.bool true)) (.tmp 22), none, [17, 22]⟩,
    ⟨(some 13), .assign (.tmp 23), none, [23]⟩])
  (.cond (.tmp 13) (.seq (.reg [⟨(some 4), .assign (.const (.int .i64 1)), none, []⟩])
  .ret)
  (.seq (.seq (.reg [⟨(some 25), .fieldAddr 33 (.tmp 2) 0, none, []⟩,
    ⟨(some 26), .load 31 (.tmp 25), none, [25]⟩,
    ⟨(some 27), .call ⟨.value (.func 22), #[(.tmp 26)], #[31]⟩, none, [26]⟩,
    ⟨(some 28), .move (.tmp 27), none, [27]⟩,
    ⟨(some 29), .fieldAddr 33 (.tmp 2) 2, (some (28, true)), []⟩,
    ⟨(some 30), .load 3 (.tmp 29), (some (28, true)), [29]⟩,
    ⟨(some 31), .binOp .neq 3 (.tmp 30) (.const (.int .i64 0)) 3, (some (28, true)), [30]⟩,
    ⟨(some 32), .pick (.tmp 28) (.tmp 31) (.const (.bool false)), none, [28, 31]⟩,
    ⟨(some 24), .assign (.tmp 32), none, [32]⟩])
  (.cond (.tmp 24) .skip
  (.reg [⟨(some 33), .fieldAddr 33 (.tmp 2) 0, none, []⟩,
    ⟨(some 34), .load 31 (.tmp 33), none, [33]⟩,
    ⟨(some 35), .call ⟨.value (.func 22), #[(.tmp 34)], #[31]⟩, none, [34]⟩,
    ⟨(some 36), .unOp .not 4 (.tmp 35), none, [35]⟩,
    ⟨(some 37), .move (.tmp 36), none, [36]⟩,
    ⟨(some 38), .move (.tmp 5), (some (37, true)), []⟩,
    ⟨(some 39), .fieldAddr 33 (.tmp 2) 2, (some (37, true)), []⟩,
    ⟨(some 40), .load 3 (.tmp 39), (some (37, true)), [39]⟩,
    ⟨(some 41), .call ⟨.value (.tmp 38), #[(.tmp 40)], #[3]⟩, (some (37, true)), [38, 40]⟩,
    ⟨(some 42), .unOp .not 4 (.tmp 41), (some (37, true)), [41]⟩,
    ⟨(some 43), .move (.tmp 42), (some (37, true)), [42]⟩,
    ⟨(some 44), .fieldAddr 33 (.tmp 2) 2, (some (43, false)), []⟩,
    ⟨(some 45), .load 3 (.tmp 44), (some (43, false)), [44]⟩,
    ⟨(some 46), .fieldAddr 33 (.tmp 2) 1, (some (43, false)), []⟩,
    ⟨(some 47), .load 3 (.tmp 46), (some (43, false)), [46]⟩,
    ⟨(some 48), .binOp .eql 3 (.tmp 45) (.tmp 47) 3, (some (43, false)), [45, 47]⟩,
    ⟨(some 49), .pick (.tmp 43) (.const (.bool true)) (.tmp 48), (some (37, true)), [43, 48]⟩,
    ⟨(some 50), .pick (.tmp 37) (.tmp 49) (.const (.bool false)), none, [37, 49]⟩,
    ⟨(some 24), .assign (.tmp 50), none, [50]⟩])))
  (.cond (.tmp 24) (.seq (.reg [⟨(some 4), .assign (.const (.int .i64 1)), none, []⟩])
  .ret)
  .skip)))))))))
  (.seq (.reg [⟨(some 4), .assign (.const (.int .i64 0)), none, []⟩])
  .ret))))
theorem s21 : Stripped Try.prog 21 51 [.tmp 4] C21 := ⟨Try.f21, _, [[[0], [1], []], [[], [6]], [[], [8], [9]], [[]], [[], [11], [12]], [[]], [[], [14], [15], [16], [], [], [19], [18, 20], [21], [17, 22], [23]], [[]], [[], [25], [26], [27], [], [29], [30], [28, 31], [32]], [[], [33], [34], [35], [36], [], [], [39], [38, 40], [41], [42], [], [44], [], [46], [45, 47], [43, 48], [37, 49], [50]], [[]], [[]]], [], Try.func21, rfl, by kernel_rfl, rfl, rfl, by kernel_rfl⟩
/- probecard/defects.Single -/
def C22 : CC := (.seq (.reg [⟨(some 2), .assign (.const (.bool false)), none, []⟩])
  (.seq (.reg [⟨(some 3), .move (.tmp 0), none, []⟩,
    ⟨(some 4), .binOp .leq 31 (.tmp 3) (.const (.int .u8 3)) 31, none, [3]⟩,
    ⟨(some 5), .move (.tmp 4), none, [4]⟩,
    ⟨(some 6), .move (.tmp 0), (some (5, false)), []⟩,
    ⟨(some 7), .binOp .eql 31 (.tmp 6) (.const (.int .u8 14)) 31, (some (5, false)), [6]⟩,
    ⟨(some 8), .pick (.tmp 5) (.const (.bool true)) (.tmp 7), none, [5, 7]⟩,
    ⟨(some 9), .move (.tmp 8), none, [8]⟩,
    ⟨(some 10), .move (.tmp 0), (some (9, false)), [0]⟩,
    ⟨(some 11), .binOp .eql 31 (.tmp 10) (.const (.int .u8 15)) 31, (some (9, false)), [10]⟩,
    ⟨(some 12), .pick (.tmp 9) (.const (.bool true)) (.tmp 11), none, [9, 11]⟩,
    ⟨(some 2), .assign (.tmp 12), none, [12]⟩])
  .ret))
theorem s22 : Stripped Try.prog 22 13 [.tmp 2] C22 := ⟨Try.f22, _, [[[]], [[], [3], [4], [], [6], [5, 7], [8], [0], [10], [9, 11], [12]]], [], Try.func22, rfl, by kernel_rfl, rfl, rfl, by kernel_rfl⟩
/- probecard/defects.InverseOf -/
def C23 : CC := (.seq (.reg [⟨(some 2), .assign (.const (.int .u8 0)), none, []⟩])
  (.seq (.seq (.reg [⟨(some 3), .move (.tmp 0), none, []⟩])
  (.block 0 (.seq (.seq (.reg [⟨(some 5), .binOp .eql 31 (.tmp 3) (.const (.int .u8 6)) 31, none, []⟩,
    ⟨(some 4), .assign (.tmp 5), none, [5]⟩])
  (.cond (.tmp 4) .skip
  (.seq (.reg [⟨(some 6), .binOp .eql 31 (.tmp 3) (.const (.int .u8 7)) 31, none, []⟩,
    ⟨(some 4), .assign (.tmp 6), none, [6]⟩])
  (.cond (.tmp 4) .skip
  (.seq (.reg [⟨(some 7), .binOp .eql 31 (.tmp 3) (.const (.int .u8 8)) 31, none, []⟩,
    ⟨(some 4), .assign (.tmp 7), none, [7]⟩])
  (.cond (.tmp 4) .skip
  (.reg [⟨(some 8), .binOp .eql 31 (.tmp 3) (.const (.int .u8 9)) 31, none, []⟩,
    ⟨(some 4), .assign (.tmp 8), none, [8]⟩])))))))
  (.cond (.tmp 4) (.seq (.reg [⟨(some 9), .move (.tmp 0), none, []⟩,
    ⟨(some 10), .binOp .sub 31 (.const (.int .u8 15)) (.tmp 9) 31, none, [9]⟩,
    ⟨(some 2), .assign (.tmp 10), none, [10]⟩])
  .ret)
  (.seq (.seq (.reg [⟨(some 12), .binOp .eql 31 (.tmp 3) (.const (.int .u8 10)) 31, none, []⟩,
    ⟨(some 11), .assign (.tmp 12), none, [12]⟩])
  (.cond (.tmp 11) .skip
  (.seq (.reg [⟨(some 13), .binOp .eql 31 (.tmp 3) (.const (.int .u8 11)) 31, none, []⟩,
    ⟨(some 11), .assign (.tmp 13), none, [13]⟩])
  (.cond (.tmp 11) .skip
  (.seq (.reg [⟨(some 14), .binOp .eql 31 (.tmp 3) (.const (.int .u8 12)) 31, none, []⟩,
    ⟨(some 11), .assign (.tmp 14), none, [14]⟩])
  (.cond (.tmp 11) .skip
  (.reg [⟨(some 15), .binOp .eql 31 (.tmp 3) (.const (.int .u8 13)) 31, none, []⟩,
    ⟨(some 11), .assign (.tmp 15), none, [15]⟩])))))))
  (.cond (.tmp 11) (.seq (.reg [⟨(some 16), .move (.tmp 0), none, []⟩,
    ⟨(some 17), .binOp .sub 31 (.const (.int .u8 23)) (.tmp 16) 31, none, [16]⟩,
    ⟨(some 2), .assign (.tmp 17), none, [17]⟩])
  .ret)
  (.seq (.seq (.reg [⟨(some 19), .binOp .eql 31 (.tmp 3) (.const (.int .u8 17)) 31, none, []⟩,
    ⟨(some 18), .assign (.tmp 19), none, [19]⟩])
  (.cond (.tmp 18) .skip
  (.reg [⟨(some 20), .binOp .eql 31 (.tmp 3) (.const (.int .u8 18)) 31, none, []⟩,
    ⟨(some 18), .assign (.tmp 20), none, [20]⟩])))
  (.cond (.tmp 18) (.seq (.reg [⟨(some 21), .move (.tmp 0), none, []⟩,
    ⟨(some 22), .binOp .sub 31 (.const (.int .u8 35)) (.tmp 21) 31, none, [21]⟩,
    ⟨(some 2), .assign (.tmp 22), none, [22]⟩])
  .ret)
  (.seq (.reg [⟨(some 24), .binOp .eql 31 (.tmp 3) (.const (.int .u8 16)) 31, none, []⟩,
    ⟨(some 23), .assign (.tmp 24), none, [24]⟩])
  (.cond (.tmp 23) (.seq (.reg [⟨(some 25), .move (.tmp 0), none, []⟩,
    ⟨(some 2), .assign (.tmp 25), none, [25]⟩])
  .ret)
  .skip))))))))))
  (.seq (.seq (.reg [⟨(some 26), .move (.tmp 0), none, []⟩,
    ⟨(some 27), .binOp .geq 31 (.tmp 26) (.const (.int .u8 19)) 31, none, [26]⟩])
  (.cond (.tmp 27) (.seq (.reg [⟨(some 28), .move (.tmp 0), none, []⟩,
    ⟨(some 2), .assign (.tmp 28), none, [28]⟩])
  .ret)
  .skip))
  (.seq (.reg [⟨(some 29), .move (.tmp 0), none, []⟩,
    ⟨(some 30), .binOp .xor 31 (.tmp 29) (.const (.int .u8 1)) 31, none, [29]⟩,
    ⟨(some 2), .assign (.tmp 30), none, [30]⟩])
  .ret))))
theorem s23 : Stripped Try.prog 23 31 [.tmp 2] C23 := ⟨Try.f23, _, [[[]], [[]], [[], [5]], [[], [6]], [[], [7]], [[], [8]], [[], [9], [10]], [[], [12]], [[], [13]], [[], [14]], [[], [15]], [[], [16], [17]], [[], [19]], [[], [20]], [[], [21], [22]], [[], [24]], [[], [25]], [[], [26]], [[], [28]], [[], [29], [30]]], [], Try.func23, rfl, by kernel_rfl, rfl, rfl, by kernel_rfl⟩
/- probecard/defects.New -/
def C24 : CC := (.seq (.reg [⟨(some 4), .assign (.const (.pointer none)), none, []⟩,
    ⟨(some 5), .assign (.const (.int .i64 0)), none, []⟩])
  (.seq (.block 0 (.seq (.reg [⟨(some 10), .move (.tmp 0), none, []⟩,
    ⟨(some 11), .call ⟨.builtin .len, #[(.tmp 10)], #[40]⟩, none, [10]⟩,
    ⟨(some 12), .binOp .eql 3 (.tmp 11) (.const (.int .i64 0)) 3, none, [11]⟩,
    ⟨(some 9), .assign (.tmp 12), none, [12]⟩])
  (.cond (.tmp 9) (.seq (.reg [⟨(some 4), .assign (.const (.pointer none)), none, []⟩,
    ⟨(some 5), .assign (.const (.int .i64 1)), none, []⟩])
  .ret)
  (.seq (.reg [⟨(some 14), .move (.tmp 0), none, []⟩,
    ⟨(some 15), .call ⟨.builtin .len, #[(.tmp 14)], #[40]⟩, none, [14]⟩,
    ⟨(some 16), .binOp .gtr 3 (.tmp 15) (.const (.int .i64 1024)) 3, none, [15]⟩,
    ⟨(some 17), .move (.tmp 16), none, [16]⟩,
    ⟨(some 18), .move (.tmp 1), (some (17, false)), []⟩,
    ⟨(some 19), .call ⟨.builtin .len, #[(.tmp 18)], #[71]⟩, (some (17, false)), [18]⟩,
    ⟨(some 20), .binOp .gtr 3 (.tmp 19) (.const (.int .i64 1)) 3, (some (17, false)), [19]⟩,
    ⟨(some 21), .pick (.tmp 17) (.const (.bool true)) (.tmp 20), none, [17, 20]⟩,
    ⟨(some 13), .assign (.tmp 21), none, [21]⟩])
  (.cond (.tmp 13) (.seq (.reg [⟨(some 4), .assign (.const (.pointer none)), none, []⟩,
    ⟨(some 5), .assign (.const (.int .i64 3)), none, []⟩])
  .ret)
  (.seq (.reg [⟨(some 23), .move (.tmp 0), none, []⟩,
    ⟨(some 24), .call ⟨.value (.func 35), #[(.tmp 23), (.func 36)], #[40, 66]⟩, none, [23]⟩,
    ⟨(some 22), .assign (.tmp 24), none, [24]⟩])
  (.cond (.tmp 22) (.seq (.reg [⟨(some 4), .assign (.const (.pointer none)), none, []⟩,
    ⟨(some 5), .assign (.const (.int .i64 1)), none, []⟩])
  .ret)
  .skip)))))))
  (.seq (.reg [⟨(some 25), .move (.tmp 0), none, []⟩,
    ⟨(some 26), .call ⟨.value (.func 33), #[(.tmp 25)], #[40]⟩, none, [25]⟩,
    ⟨(some 27), .move (.tmp 1), none, []⟩,
    ⟨(some 28), .call ⟨.builtin .len, #[(.tmp 27)], #[71]⟩, none, [27]⟩,
    ⟨(some 29), .binOp .eql 3 (.tmp 28) (.const (.int .i64 0)) 3, none, [28]⟩,
    ⟨(some 30), .build 57 #[(1, (.tmp 26)), (2, (.tmp 29))], none, [26, 29]⟩,
    ⟨(some 31), .box 57 (.tmp 30), none, [30]⟩,
    ⟨(some 6), .assign (.tmp 31), none, [31]⟩])
  (.seq (.seq (.reg [⟨(some 32), .move (.tmp 1), none, []⟩,
    ⟨(some 33), .call ⟨.builtin .len, #[(.tmp 32)], #[71]⟩, none, []⟩,
    ⟨(some 34), .move (.const (.int .i64 0)), none, []⟩])
  (.block 1 (.loop (.seq (.reg [⟨(some 35), .binOp .lss 3 (.tmp 34) (.tmp 33) 3, none, []⟩])
  (.seq (.cond (.tmp 35) .skip
  (.exit 1))
  (.seq (.block 2 (.seq (.reg [⟨(some 36), .indexAddr 71 (.tmp 32) (.tmp 34), none, []⟩,
    ⟨(some 37), .load 33 (.tmp 36), none, [36]⟩,
    ⟨(some 8), .alloc 33, none, []⟩,
    ⟨none, .store 33 (.tmp 8) (.tmp 37), none, [37]⟩])
  (.seq (.seq (.reg [⟨(some 38), .load 33 (.tmp 8), none, []⟩,
    ⟨(some 39), .move (.tmp 0), none, []⟩,
    ⟨(some 40), .call ⟨.builtin .len, #[(.tmp 39)], #[40]⟩, none, [39]⟩,
    ⟨(some 41), .call ⟨.value (.func 21), #[(.tmp 38), (.tmp 40)], #[33, 3]⟩, none, [38, 40]⟩,
    ⟨(some 42), .binOp .neq 28 (.tmp 41) (.const (.int .i64 0)) 28, none, [41]⟩])
  (.cond (.tmp 42) (.seq (.reg [⟨(some 4), .assign (.const (.pointer none)), none, []⟩,
    ⟨(some 5), .assign (.const (.int .i64 1)), none, []⟩])
  .ret)
  .skip))
  (.seq (.reg [⟨(some 43), .move (.tmp 6), none, []⟩,
    ⟨(some 44), .load 33 (.tmp 8), none, []⟩,
    ⟨(some 45), .nilCheck (.tmp 43), none, [43]⟩,
    ⟨(some 46), .fieldAddr 57 (.tmp 45) 0, none, [45]⟩,
    ⟨none, .store 33 (.tmp 46) (.tmp 44), none, [44, 46]⟩])
  (.seq (.seq (.reg [⟨(some 47), .fieldAddr 33 (.tmp 8) 0, none, []⟩,
    ⟨(some 48), .load 31 (.tmp 47), none, [47]⟩,
    ⟨(some 49), .binOp .leq 31 (.tmp 48) (.const (.int .u8 1)) 31, none, [48]⟩])
  (.cond (.tmp 49) (.drw [⟨(some 50), .move (.tmp 6), none, []⟩,
    ⟨(some 51), .nilCheck (.tmp 50), none, [50]⟩,
    ⟨(some 52), .fieldAddr 57 (.tmp 51) 1, none, [51]⟩,
    ⟨(some 53), .load 40 (.tmp 52), none, [52]⟩,
    ⟨(some 54), .fieldAddr 33 (.tmp 8) 1, none, []⟩,
    ⟨(some 55), .load 3 (.tmp 54), none, [54]⟩,
    ⟨(some 56), .fieldAddr 33 (.tmp 8) 0, none, []⟩,
    ⟨(some 57), .load 31 (.tmp 56), none, [56]⟩,
    ⟨(some 58), .indexAddr 40 (.tmp 53) (.tmp 55), none, [53, 55]⟩,
    ⟨none, .store 46 (.tmp 58) (.tmp 57), none, [57, 58]⟩] [0, 1, 3, 7, 0, 16, 0, 64, 255, 511])
  .skip))
  (.reg [⟨(some 59), .move (.tmp 6), none, []⟩,
    ⟨(some 60), .call ⟨.value (.func 37), #[(.tmp 59)], #[27]⟩, none, [59, 60]⟩]))))))
  (.reg [⟨(some 61), .binOp .add 3 (.tmp 34) (.const (.int .i64 1)) 3, none, []⟩,
    ⟨(some 34), .move (.tmp 61), none, [61]⟩])))))))
  (.seq (.reg [⟨(some 62), .move (.tmp 6), none, []⟩,
    ⟨(some 4), .assign (.tmp 62), none, [62]⟩,
    ⟨(some 5), .assign (.const (.int .i64 0)), none, []⟩])
  .ret)))))
theorem s24 : Stripped Try.prog 24 63 [.tmp 4, .tmp 5] C24 := ⟨Try.f24, _, [[[], []], [[], [10], [11], [12]], [[], []], [[], [14], [15], [16], [], [18], [19], [17, 20], [21]], [[], []], [[], [23], [24]], [[], []], [[], [25], [], [27], [28], [26, 29], [30], [31]], [[], [], []], [[]], [[], [36], [], [37]], [[], [], [39], [38, 40], [41]], [[], []], [[], [], [43], [45], [44, 46]], [[], [47], [48]], [[], [50], [51], [52], [], [54], [], [56], [53, 55], [57, 58]], [[], [59, 60]], [[], [61]], [[], [62], []]], [], Try.func24, rfl, by kernel_rfl, rfl, rfl, by kernel_rfl⟩
/- probecard/defects.Name -/
def C25 : CC := (.seq (.reg [⟨(some 2), .assign (.const (.string ⟨#[]⟩)), none, []⟩])
  (.seq (.reg [⟨(some 4), .buildSlice 73 19 #[(0, (.const (.string ⟨#[83, 116, 117, 99, 107, 65, 116, 48]⟩))), (1, (.const (.string ⟨#[83, 116, 117, 99, 107, 65, 116, 49]⟩))), (2, (.const (.string ⟨#[78, 111, 82, 105, 115, 101]⟩))), (3, (.const (.string ⟨#[78, 111, 70, 97, 108, 108]⟩))), (4, (.const (.string ⟨#[73, 110, 118, 101, 114, 116, 82, 105, 115, 101]⟩))), (5, (.const (.string ⟨#[73, 110, 118, 101, 114, 116, 70, 97, 108, 108]⟩))), (6, (.const (.string ⟨#[82, 105, 115, 101, 48]⟩))), (7, (.const (.string ⟨#[82, 105, 115, 101, 49]⟩))), (8, (.const (.string ⟨#[70, 97, 108, 108, 48]⟩))), (9, (.const (.string ⟨#[70, 97, 108, 108, 49]⟩))), (10, (.const (.string ⟨#[72, 111, 108, 100, 48, 48]⟩))), (11, (.const (.string ⟨#[72, 111, 108, 100, 48, 49]⟩))), (12, (.const (.string ⟨#[72, 111, 108, 100, 49, 48]⟩))), (13, (.const (.string ⟨#[72, 111, 108, 100, 49, 49]⟩))), (14, (.const (.string ⟨#[78, 111, 67, 101, 108, 108, 48]⟩))), (15, (.const (.string ⟨#[78, 111, 67, 101, 108, 108, 49]⟩))), (16, (.const (.string ⟨#[87, 114, 111, 110, 103]⟩))), (17, (.const (.string ⟨#[66, 111, 116, 104, 65, 110, 100]⟩))), (18, (.const (.string ⟨#[66, 111, 116, 104, 79, 114]⟩)))], none, []⟩,
    ⟨(some 3), .assign (.tmp 4), none, [4]⟩])
  (.seq (.seq (.reg [⟨(some 5), .move (.tmp 0), none, []⟩,
    ⟨(some 6), .convert 31 3 (.tmp 5), none, [5]⟩,
    ⟨(some 7), .move (.tmp 3), none, []⟩,
    ⟨(some 8), .call ⟨.builtin .len, #[(.tmp 7)], #[73]⟩, none, [7]⟩,
    ⟨(some 9), .binOp .geq 3 (.tmp 6) (.tmp 8) 3, none, [6, 8]⟩])
  (.cond (.tmp 9) (.seq (.reg [⟨(some 2), .assign (.const (.string ⟨#[63]⟩)), none, []⟩])
  .ret)
  .skip))
  (.seq (.reg [⟨(some 10), .move (.tmp 3), none, []⟩,
    ⟨(some 11), .move (.tmp 0), none, []⟩,
    ⟨(some 12), .indexAddr 73 (.tmp 10) (.tmp 11), none, [10, 11]⟩,
    ⟨(some 13), .load 9 (.tmp 12), none, [12]⟩,
    ⟨(some 2), .assign (.tmp 13), none, [13]⟩])
  .ret))))
theorem s25 : Stripped Try.prog 25 14 [.tmp 2] C25 := ⟨Try.f25, _, [[[]], [[], [4]], [[], [5], [], [7], [6, 8]], [[]], [[], [], [10, 11], [12], [13]]], [], Try.func25, rfl, by kernel_rfl, rfl, rfl, by kernel_rfl⟩
/- probecard/probecardref38.settle -/
def C26 : CC := (.seq (.reg [⟨(some 1), .box 38 (.tmp 0), none, [0]⟩,
    ⟨(some 2), .alloc 38, none, []⟩])
  (.seq (.seq (.reg [⟨(some 3), .fieldAddr 38 (.tmp 1) 1, none, []⟩,
    ⟨(some 4), .load 3 (.tmp 3), none, [3]⟩])
  (.block 0 (.seq (.reg [⟨(some 6), .binOp .eql 3 (.tmp 4) (.const (.int .i64 0)) 3, none, []⟩,
    ⟨(some 5), .assign (.tmp 6), none, [6]⟩])
  (.cond (.tmp 5) (.reg [⟨(some 7), .fieldAddr 38 (.tmp 1) 0, none, []⟩,
    ⟨(some 8), .load 36 (.tmp 7), none, [7]⟩,
    ⟨(some 9), .fieldAddr 38 (.tmp 1) 2, none, []⟩,
    ⟨(some 10), .load 3 (.tmp 9), none, [9]⟩,
    ⟨(some 11), .indexAddr 36 (.tmp 8) (.tmp 10), none, [8, 10]⟩,
    ⟨none, .store 3 (.tmp 11) (.const (.int .i64 0)), none, [11]⟩])
  (.seq (.reg [⟨(some 13), .binOp .eql 3 (.tmp 4) (.const (.int .i64 1)) 3, none, []⟩,
    ⟨(some 12), .assign (.tmp 13), none, [13]⟩])
  (.cond (.tmp 12) (.reg [⟨(some 14), .fieldAddr 38 (.tmp 1) 0, none, []⟩,
    ⟨(some 15), .load 36 (.tmp 14), none, [14]⟩,
    ⟨(some 16), .fieldAddr 38 (.tmp 1) 2, none, []⟩,
    ⟨(some 17), .load 3 (.tmp 16), none, [16]⟩,
    ⟨(some 18), .indexAddr 36 (.tmp 15) (.tmp 17), none, [15, 17]⟩,
    ⟨none, .store 3 (.tmp 18) (.const (.int .i64 1)), none, [18]⟩])
  (.seq (.seq (.reg [⟨(some 20), .binOp .eql 3 (.tmp 4) (.const (.int .i64 10)) 3, none, []⟩,
    ⟨(some 19), .assign (.tmp 20), none, [20]⟩])
  (.cond (.tmp 19) .skip
  (.reg [⟨(some 21), .binOp .eql 3 (.tmp 4) (.const (.int .i64 11)) 3, none, []⟩,
    ⟨(some 19), .assign (.tmp 21), none, [21]⟩])))
  (.cond (.tmp 19) (.seq (.reg [⟨(some 22), .fieldAddr 38 (.tmp 1) 0, none, []⟩,
    ⟨(some 23), .load 36 (.tmp 22), none, [22]⟩,
    ⟨(some 24), .fieldAddr 38 (.tmp 1) 3, none, []⟩,
    ⟨(some 25), .load 3 (.tmp 24), none, [24]⟩,
    ⟨(some 26), .indexAddr 36 (.tmp 23) (.tmp 25), none, [23, 25]⟩,
    ⟨(some 27), .load 3 (.tmp 26), none, [26]⟩,
    ⟨(some 28), .binOp .eql 3 (.tmp 27) (.const (.int .i64 0)) 3, none, [27]⟩])
  (.cond (.tmp 28) (.reg [⟨(some 29), .fieldAddr 38 (.tmp 1) 0, none, []⟩,
    ⟨(some 30), .load 36 (.tmp 29), none, [29]⟩,
    ⟨(some 31), .fieldAddr 38 (.tmp 1) 2, none, []⟩,
    ⟨(some 32), .load 3 (.tmp 31), none, [31]⟩,
    ⟨(some 33), .fieldAddr 38 (.tmp 1) 1, none, []⟩,
    ⟨(some 34), .load 3 (.tmp 33), none, [33]⟩,
    ⟨(some 35), .binOp .sub 3 (.tmp 34) (.const (.int .i64 10)) 3, none, [34]⟩,
    ⟨(some 36), .indexAddr 36 (.tmp 30) (.tmp 32), none, [30, 32]⟩,
    ⟨none, .store 3 (.tmp 36) (.tmp 35), none, [35, 36]⟩])
  .skip))
  (.seq (.seq (.reg [⟨(some 38), .binOp .eql 3 (.tmp 4) (.const (.int .i64 12)) 3, none, []⟩,
    ⟨(some 37), .assign (.tmp 38), none, [38]⟩])
  (.cond (.tmp 37) .skip
  (.reg [⟨(some 39), .binOp .eql 3 (.tmp 4) (.const (.int .i64 13)) 3, none, []⟩,
    ⟨(some 37), .assign (.tmp 39), none, [39]⟩])))
  (.cond (.tmp 37) (.seq (.reg [⟨(some 40), .fieldAddr 38 (.tmp 1) 0, none, []⟩,
    ⟨(some 41), .load 36 (.tmp 40), none, [40]⟩,
    ⟨(some 42), .fieldAddr 38 (.tmp 1) 3, none, []⟩,
    ⟨(some 43), .load 3 (.tmp 42), none, [42]⟩,
    ⟨(some 44), .indexAddr 36 (.tmp 41) (.tmp 43), none, [41, 43]⟩,
    ⟨(some 45), .load 3 (.tmp 44), none, [44]⟩,
    ⟨(some 46), .binOp .eql 3 (.tmp 45) (.const (.int .i64 1)) 3, none, [45]⟩])
  (.cond (.tmp 46) (.reg [⟨(some 47), .fieldAddr 38 (.tmp 1) 0, none, []⟩,
    ⟨(some 48), .load 36 (.tmp 47), none, [47]⟩,
    ⟨(some 49), .fieldAddr 38 (.tmp 1) 2, none, []⟩,
    ⟨(some 50), .load 3 (.tmp 49), none, [49]⟩,
    ⟨(some 51), .fieldAddr 38 (.tmp 1) 1, none, []⟩,
    ⟨(some 52), .load 3 (.tmp 51), none, [51]⟩,
    ⟨(some 53), .binOp .sub 3 (.tmp 52) (.const (.int .i64 12)) 3, none, [52]⟩,
    ⟨(some 54), .indexAddr 36 (.tmp 48) (.tmp 50), none, [48, 50]⟩,
    ⟨none, .store 3 (.tmp 54) (.tmp 53), none, [53, 54]⟩])
  .skip))
  .skip))))))))))
  (.seq (.reg [⟨(some 55), .load 38 (.tmp 1), none, []⟩,
    ⟨none, .store 38 (.tmp 2) (.tmp 55), none, [55]⟩])
  .ret)))
theorem s26 : Stripped Try.prog 26 56 [.cell 2 38] C26 := ⟨Try.f26, _, [[[0], []], [[], [3]], [[], [6]], [[], [7], [], [9], [8, 10], [11]], [[], [13]], [[], [14], [], [16], [15, 17], [18]], [[], [20]], [[], [21]], [[], [22], [], [24], [23, 25], [26], [27]], [[], [29], [], [31], [], [33], [34], [30, 32], [35, 36]], [[], [38]], [[], [39]], [[], [40], [], [42], [41, 43], [44], [45]], [[], [47], [], [49], [], [51], [52], [48, 50], [53, 54]], [[], [55]]], [], Try.func26, rfl, by kernel_rfl, rfl, rfl, by kernel_rfl⟩
/- (*probecard/defects.Memory).there -/
def C27 : CC := (.seq (.reg [⟨(some 4), .assign (.const (.int .i64 0)), none, []⟩])
  (.seq (.block 0 (.seq (.reg [⟨(some 6), .move (.tmp 0), none, []⟩,
    ⟨(some 7), .binOp .eql 27 (.tmp 6) (.const (.pointer none)) 27, none, [6]⟩,
    ⟨(some 8), .move (.tmp 7), none, [7]⟩,
    ⟨(some 9), .move (.tmp 0), (some (8, false)), []⟩,
    ⟨(some 10), .nilCheck (.tmp 9), (some (8, false)), [9]⟩,
    ⟨(some 11), .fieldAddr 57 (.tmp 10) 1, (some (8, false)), [10]⟩,
    ⟨(some 12), .load 40 (.tmp 11), (some (8, false)), [11]⟩,
    ⟨(some 13), .call ⟨.builtin .len, #[(.tmp 12)], #[40]⟩, (some (8, false)), [12]⟩,
    ⟨(some 14), .binOp .eql 3 (.tmp 13) (.const (.int .i64 0)) 3, (some (8, false)), [13]⟩,
    ⟨(some 15), .pick (.tmp 8) (.const (.bool true)) (.tmp 14), none, [8, 14]⟩,
    ⟨(some 5), .assign (.tmp 15), none, [15]⟩])
  (.cond (.tmp 5) (.seq (.reg [⟨(some 4), .assign (.const (.int .i64 2)), none, []⟩])
  .ret)
  (.seq (.reg [⟨(some 17), .move (.tmp 1), none, []⟩,
    ⟨(some 18), .binOp .lss 3 (.tmp 17) (.const (.int .i64 0)) 3, none, [17]⟩,
    ⟨(some 19), .move (.tmp 18), none, [18]⟩,
    ⟨(some 20), .move (.tmp 1), (some (19, false)), [1]⟩,
    ⟨(some 21), .move (.tmp 0), (some (19, false)), []⟩,
    ⟨(some 22), .nilCheck (.tmp 21), (some (19, false)), [21]⟩,
    ⟨(some 23), .fieldAddr 57 (.tmp 22) 1, (some (19, false)), [22]⟩,
    ⟨(some 24), .load 40 (.tmp 23), (some (19, false)), [23]⟩,
    ⟨(some 25), .call ⟨.builtin .len, #[(.tmp 24)], #[40]⟩, (some (19, false)), [24]⟩,
    ⟨(some 26), .binOp .geq 3 (.tmp 20) (.tmp 25) 3, (some (19, false)), [20, 25]⟩,
    ⟨(some 27), .pick (.tmp 19) (.const (.bool true)) (.tmp 26), none, [19, 26]⟩,
    ⟨(some 16), .assign (.tmp 27), none, [27]⟩])
  (.cond (.tmp 16) (.seq (.reg [⟨(some 4), .assign (.const (.int .i64 1)), none, []⟩])
  .ret)
  .skip)))))
  (.seq (.reg [⟨(some 4), .assign (.const (.int .i64 0)), none, []⟩])
  .ret)))
theorem s27 : Stripped Try.prog 27 28 [.tmp 4] C27 := ⟨Try.f27, _, [[[]], [[], [6], [7], [], [9], [10], [11], [12], [13], [8, 14], [15]], [[]], [[], [17], [18], [1], [], [21], [22], [23], [24], [20, 25], [19, 26], [27]], [[]], [[]]], [], Try.func27, rfl, by kernel_rfl, rfl, rfl, by kernel_rfl⟩
/- probecard/defects.known -/
def C28 : CC := (.seq (.reg [⟨(some 2), .assign (.const (.bool false)), none, []⟩])
  (.seq (.reg [⟨(some 3), .move (.tmp 0), none, [0]⟩,
    ⟨(some 4), .binOp .leq 46 (.tmp 3) (.const (.int .u8 1)) 46, none, [3]⟩,
    ⟨(some 2), .assign (.tmp 4), none, [4]⟩])
  .ret))
theorem s28 : Stripped Try.prog 28 5 [.tmp 2] C28 := ⟨Try.f28, _, [[[]], [[0], [3], [4]]], [], Try.func28, rfl, by kernel_rfl, rfl, rfl, by kernel_rfl⟩
/- (*probecard/defects.Memory).accessed -/
def C29 : CC := (.seq (.reg [⟨(some 4), .assign (.const (.slice none 0 0)), none, []⟩])
  (.seq (.seq (.reg [⟨(some 5), .move (.tmp 0), none, []⟩,
    ⟨(some 6), .nilCheck (.tmp 5), none, [5]⟩,
    ⟨(some 7), .fieldAddr 57 (.tmp 6) 2, none, [6]⟩,
    ⟨(some 8), .load 4 (.tmp 7), none, [7]⟩,
    ⟨(some 9), .unOp .not 4 (.tmp 8), none, [8]⟩,
    ⟨(some 10), .move (.tmp 9), none, [9]⟩,
    ⟨(some 11), .move (.tmp 1), (some (10, true)), []⟩,
    ⟨(some 12), .move (.tmp 0), (some (10, true)), []⟩,
    ⟨(some 13), .nilCheck (.tmp 12), (some (10, true)), [12]⟩,
    ⟨(some 14), .fieldAddr 57 (.tmp 13) 0, (some (10, true)), [13]⟩,
    ⟨(some 15), .fieldAddr 33 (.tmp 14) 1, (some (10, true)), [14]⟩,
    ⟨(some 16), .load 3 (.tmp 15), (some (10, true)), [15]⟩,
    ⟨(some 17), .binOp .eql 3 (.tmp 11) (.tmp 16) 3, (some (10, true)), [11, 16]⟩,
    ⟨(some 18), .pick (.tmp 10) (.tmp 17) (.const (.bool false)), none, [10, 17]⟩])
  (.cond (.tmp 18) (.seq (.reg [⟨(some 19), .move (.tmp 0), none, []⟩,
    ⟨(some 20), .nilCheck (.tmp 19), none, [19]⟩,
    ⟨(some 21), .fieldAddr 57 (.tmp 20) 0, none, [20]⟩,
    ⟨(some 22), .fieldAddr 33 (.tmp 21) 0, none, [21]⟩,
    ⟨(some 23), .load 31 (.tmp 22), none, [22]⟩])
  (.block 0 (.seq (.seq (.reg [⟨(some 25), .binOp .eql 31 (.tmp 23) (.const (.int .u8 14)) 31, none, []⟩,
    ⟨(some 24), .assign (.tmp 25), none, [25]⟩])
  (.cond (.tmp 24) .skip
  (.reg [⟨(some 26), .binOp .eql 31 (.tmp 23) (.const (.int .u8 15)) 31, none, []⟩,
    ⟨(some 24), .assign (.tmp 26), none, [26]⟩])))
  (.cond (.tmp 24) (.seq (.reg [⟨(some 4), .assign (.const (.slice none 0 0)), none, []⟩])
  .ret)
  (.seq (.reg [⟨(some 28), .binOp .eql 31 (.tmp 23) (.const (.int .u8 16)) 31, none, []⟩,
    ⟨(some 27), .assign (.tmp 28), none, [28]⟩])
  (.cond (.tmp 27) (.seq (.reg [⟨(some 29), .move (.tmp 0), none, []⟩,
    ⟨(some 30), .nilCheck (.tmp 29), none, [29]⟩,
    ⟨(some 31), .fieldAddr 57 (.tmp 30) 0, none, [30]⟩,
    ⟨(some 32), .fieldAddr 33 (.tmp 31) 2, none, [31]⟩,
    ⟨(some 33), .load 3 (.tmp 32), none, [32]⟩,
    ⟨(some 34), .buildSlice 36 1 #[(0, (.tmp 33))], none, [33]⟩,
    ⟨(some 4), .assign (.tmp 34), none, [34]⟩])
  .ret)
  (.seq (.seq (.reg [⟨(some 36), .binOp .eql 31 (.tmp 23) (.const (.int .u8 17)) 31, none, []⟩,
    ⟨(some 35), .assign (.tmp 36), none, [36]⟩])
  (.cond (.tmp 35) .skip
  (.reg [⟨(some 37), .binOp .eql 31 (.tmp 23) (.const (.int .u8 18)) 31, none, []⟩,
    ⟨(some 35), .assign (.tmp 37), none, [37]⟩])))
  (.cond (.tmp 35) (.seq (.drw [⟨(some 38), .move (.tmp 0), none, []⟩,
    ⟨(some 39), .nilCheck (.tmp 38), none, [38]⟩,
    ⟨(some 40), .fieldAddr 57 (.tmp 39) 0, none, [39]⟩,
    ⟨(some 41), .fieldAddr 33 (.tmp 40) 1, none, [40]⟩,
    ⟨(some 42), .load 3 (.tmp 41), none, [41]⟩,
    ⟨(some 43), .move (.tmp 0), none, []⟩,
    ⟨(some 44), .nilCheck (.tmp 43), none, [43]⟩,
    ⟨(some 45), .fieldAddr 57 (.tmp 44) 0, none, [44]⟩,
    ⟨(some 46), .fieldAddr 33 (.tmp 45) 2, none, [45]⟩,
    ⟨(some 47), .load 3 (.tmp 46), none, [46]⟩,
    ⟨(some 48), .buildSlice 36 2 #[(0, (.tmp 42)), (1, (.tmp 47))], none, [42, 47]⟩,
    ⟨(some 4), .assign (.tmp 48), none, [48]⟩] [0, 1, 3, 7, 15, 0, 32, 96, 224, 480, 1023, 2047])
  .ret)
  .skip))))))))
  .skip))
  (.seq (.reg [⟨(some 49), .move (.tmp 1), none, []⟩,
    ⟨(some 50), .buildSlice 36 1 #[(0, (.tmp 49))], none, [49]⟩,
    ⟨(some 4), .assign (.tmp 50), none, [50]⟩])
  .ret)))
theorem s29 : Stripped Try.prog 29 51 [.tmp 4] C29 := ⟨Try.f29, _, [[[]], [[], [5], [6], [7], [8], [9], [], [], [12], [13], [14], [15], [11, 16], [10, 17]], [[], [19], [20], [21], [22]], [[], [25]], [[], [26]], [[]], [[], [28]], [[], [29], [30], [31], [32], [33], [34]], [[], [36]], [[], [37]], [[], [38], [39], [40], [41], [], [43], [44], [45], [46], [42, 47], [48]], [[], [49], [50]]], [], Try.func29, rfl, by kernel_rfl, rfl, rfl, by kernel_rfl⟩
/- (*probecard/defects.Memory).store -/
def C30 : CC := (.seq (.reg [⟨(some 7), .move (.tmp 0), none, []⟩,
    ⟨(some 8), .nilCheck (.tmp 7), none, [7]⟩,
    ⟨(some 9), .fieldAddr 57 (.tmp 8) 1, none, [8]⟩,
    ⟨(some 10), .load 40 (.tmp 9), none, [9]⟩,
    ⟨(some 11), .move (.tmp 1), none, []⟩,
    ⟨(some 12), .indexAddr 40 (.tmp 10) (.tmp 11), none, [10, 11]⟩,
    ⟨(some 13), .load 46 (.tmp 12), none, [12]⟩,
    ⟨(some 6), .assign (.tmp 13), none, [13]⟩])
  (.seq (.seq (.reg [⟨(some 14), .move (.tmp 0), none, []⟩,
    ⟨(some 15), .nilCheck (.tmp 14), none, [14]⟩,
    ⟨(some 16), .fieldAddr 57 (.tmp 15) 2, none, [15]⟩,
    ⟨(some 17), .load 4 (.tmp 16), none, [16]⟩])
  (.cond (.tmp 17) (.seq (.reg [⟨(some 18), .move (.tmp 0), none, []⟩,
    ⟨(some 19), .nilCheck (.tmp 18), none, [18]⟩,
    ⟨(some 20), .fieldAddr 57 (.tmp 19) 1, none, [19]⟩,
    ⟨(some 21), .load 40 (.tmp 20), none, [20]⟩,
    ⟨(some 22), .move (.tmp 1), none, []⟩,
    ⟨(some 23), .move (.tmp 2), none, []⟩,
    ⟨(some 24), .indexAddr 40 (.tmp 21) (.tmp 22), none, [21, 22]⟩,
    ⟨none, .store 46 (.tmp 24) (.tmp 23), none, [23, 24]⟩])
  .ret)
  .skip))
  (.seq (.seq (.reg [⟨(some 25), .move (.tmp 1), none, []⟩,
    ⟨(some 26), .move (.tmp 0), none, []⟩,
    ⟨(some 27), .nilCheck (.tmp 26), none, [26]⟩,
    ⟨(some 28), .fieldAddr 57 (.tmp 27) 0, none, [27]⟩,
    ⟨(some 29), .fieldAddr 33 (.tmp 28) 1, none, [28]⟩,
    ⟨(some 30), .load 3 (.tmp 29), none, [29]⟩,
    ⟨(some 31), .binOp .eql 3 (.tmp 25) (.tmp 30) 3, none, [25, 30]⟩])
  (.cond (.tmp 31) (.block 0 (.seq (.seq (.reg [⟨(some 33), .move (.tmp 0), none, []⟩,
    ⟨(some 34), .nilCheck (.tmp 33), none, [33]⟩,
    ⟨(some 35), .fieldAddr 57 (.tmp 34) 0, none, [34]⟩,
    ⟨(some 36), .fieldAddr 33 (.tmp 35) 0, none, [35]⟩,
    ⟨(some 37), .load 31 (.tmp 36), none, [36]⟩,
    ⟨(some 38), .binOp .leq 31 (.tmp 37) (.const (.int .u8 1)) 31, none, [37]⟩,
    ⟨(some 32), .assign (.tmp 38), none, [38]⟩])
  (.cond (.tmp 32) .skip
  (.seq (.reg [⟨(some 39), .move (.tmp 0), none, []⟩,
    ⟨(some 40), .nilCheck (.tmp 39), none, [39]⟩,
    ⟨(some 41), .fieldAddr 57 (.tmp 40) 0, none, [40]⟩,
    ⟨(some 42), .fieldAddr 33 (.tmp 41) 0, none, [41]⟩,
    ⟨(some 43), .load 31 (.tmp 42), none, [42]⟩,
    ⟨(some 44), .binOp .eql 31 (.tmp 43) (.const (.int .u8 2)) 31, none, [43]⟩,
    ⟨(some 45), .move (.tmp 44), none, [44]⟩,
    ⟨(some 46), .move (.tmp 2), (some (45, true)), []⟩,
    ⟨(some 47), .binOp .eql 46 (.tmp 46) (.const (.int .u8 1)) 46, (some (45, true)), [46]⟩,
    ⟨(some 48), .pick (.tmp 45) (.tmp 47) (.const (.bool false)), none, [45, 47]⟩,
    ⟨(some 32), .assign (.tmp 48), none, [48]⟩])
  (.cond (.tmp 32) .skip
  (.reg [⟨(some 49), .move (.tmp 0), none, []⟩,
    ⟨(some 50), .nilCheck (.tmp 49), none, [49]⟩,
    ⟨(some 51), .fieldAddr 57 (.tmp 50) 0, none, [50]⟩,
    ⟨(some 52), .fieldAddr 33 (.tmp 51) 0, none, [51]⟩,
    ⟨(some 53), .load 31 (.tmp 52), none, [52]⟩,
    ⟨(some 54), .binOp .eql 31 (.tmp 53) (.const (.int .u8 3)) 31, none, [53]⟩,
    ⟨(some 55), .move (.tmp 54), none, [54]⟩,
    ⟨(some 56), .move (.tmp 2), (some (55, true)), []⟩,
    ⟨(some 57), .binOp .eql 46 (.tmp 56) (.const (.int .u8 0)) 46, (some (55, true)), [56]⟩,
    ⟨(some 58), .pick (.tmp 55) (.tmp 57) (.const (.bool false)), none, [55, 57]⟩,
    ⟨(some 32), .assign (.tmp 58), none, [58]⟩])))))
  (.cond (.tmp 32) .ret
  .skip)))
  .skip))
  (.seq (.reg [⟨(some 59), .move (.tmp 0), none, []⟩,
    ⟨(some 60), .nilCheck (.tmp 59), none, [59]⟩,
    ⟨(some 61), .fieldAddr 57 (.tmp 60) 1, none, [60]⟩,
    ⟨(some 62), .load 40 (.tmp 61), none, [61]⟩,
    ⟨(some 63), .move (.tmp 1), none, []⟩,
    ⟨(some 64), .move (.tmp 2), none, []⟩,
    ⟨(some 65), .indexAddr 40 (.tmp 62) (.tmp 63), none, [62, 63]⟩,
    ⟨none, .store 46 (.tmp 65) (.tmp 64), none, [64, 65]⟩])
  (.seq (.seq (.reg [⟨(some 66), .move (.tmp 1), none, []⟩,
    ⟨(some 67), .move (.tmp 0), none, []⟩,
    ⟨(some 68), .nilCheck (.tmp 67), none, [67]⟩,
    ⟨(some 69), .fieldAddr 57 (.tmp 68) 0, none, [68]⟩,
    ⟨(some 70), .fieldAddr 33 (.tmp 69) 2, none, [69]⟩,
    ⟨(some 71), .load 3 (.tmp 70), none, [70]⟩,
    ⟨(some 72), .binOp .eql 3 (.tmp 66) (.tmp 71) 3, none, [66, 71]⟩,
    ⟨(some 73), .move (.tmp 72), none, [72]⟩,
    ⟨(some 74), .move (.tmp 2), (some (73, true)), []⟩,
    ⟨(some 75), .move (.tmp 6), (some (73, true)), []⟩,
    ⟨(some 76), .binOp .neq 46 (.tmp 74) (.tmp 75) 46, (some (73, true)), [74, 75]⟩,
    ⟨(some 77), .pick (.tmp 73) (.tmp 76) (.const (.bool false)), none, [73, 76]⟩,
    ⟨(some 78), .move (.tmp 77), none, [77]⟩,
    ⟨(some 79), .move (.tmp 0), (some (78, true)), []⟩,
    ⟨(some 80), .nilCheck (.tmp 79), (some (78, true)), [79]⟩,
    ⟨(some 81), .fieldAddr 57 (.tmp 80) 0, (some (78, true)), [80]⟩,
    ⟨(some 82), .fieldAddr 33 (.tmp 81) 0, (some (78, true)), [81]⟩,
    ⟨(some 83), .load 31 (.tmp 82), (some (78, true)), [82]⟩,
    ⟨(some 84), .call ⟨.value (.func 22), #[(.tmp 83)], #[31]⟩, (some (78, true)), [83]⟩,
    ⟨(some 85), .unOp .not 4 (.tmp 84), (some (78, true)), [84]⟩,
    ⟨(some 86), .pick (.tmp 78) (.tmp 85) (.const (.bool false)), none, [78, 85]⟩])
  (.cond (.tmp 86) (.reg [⟨(some 87), .move (.tmp 0), none, []⟩,
    ⟨(some 88), .move (.tmp 2), none, []⟩,
    ⟨(some 89), .call ⟨.value (.func 38), #[(.tmp 87), (.tmp 88)], #[27, 46]⟩, none, [87, 88, 89]⟩])
  .skip))
  (.reg [⟨(some 90), .move (.tmp 0), none, []⟩,
    ⟨(some 91), .call ⟨.value (.func 37), #[(.tmp 90)], #[27]⟩, none, [90, 91]⟩]))))))
theorem s30 : Stripped Try.prog 30 92 [] C30 := ⟨Try.f30, _, [[[], [7], [8], [9], [], [10, 11], [12], [13]], [[], [14], [15], [16]], [[], [18], [19], [20], [], [], [21, 22], [23, 24]], [[], [], [26], [27], [28], [29], [25, 30]], [[], [33], [34], [35], [36], [37], [38]], [[], [39], [40], [41], [42], [43], [44], [], [46], [45, 47], [48]], [[], [49], [50], [51], [52], [53], [54], [], [56], [55, 57], [58]], [[], [59], [60], [61], [], [], [62, 63], [64, 65]], [[], [], [67], [68], [69], [70], [66, 71], [72], [], [], [74, 75], [73, 76], [77], [], [79], [80], [81], [82], [83], [84], [78, 85]], [[], [], [87, 88, 89]], [[], [90, 91]]], [], Try.func30, rfl, by kernel_rfl, rfl, rfl, by kernel_rfl⟩
/- probecard/probecardref38.put -/
def C31 : CC := (.seq (.reg [⟨(some 3), .box 38 (.tmp 0), none, [0]⟩,
    ⟨(some 6), .alloc 38, none, []⟩])
  (.seq (.reg [⟨(some 10), .fieldAddr 38 (.tmp 3) 0, none, []⟩,
    ⟨(some 11), .load 36 (.tmp 10), none, [10]⟩,
    ⟨(some 12), .move (.tmp 1), none, []⟩,
    ⟨(some 13), .indexAddr 36 (.tmp 11) (.tmp 12), none, [11, 12]⟩,
    ⟨(some 14), .load 3 (.tmp 13), none, [13]⟩,
    ⟨(some 7), .assign (.tmp 14), none, [14]⟩])
  (.seq (.seq (.reg [⟨(some 15), .move (.tmp 1), none, []⟩,
    ⟨(some 16), .fieldAddr 38 (.tmp 3) 2, none, []⟩,
    ⟨(some 17), .load 3 (.tmp 16), none, [16]⟩,
    ⟨(some 18), .binOp .eql 3 (.tmp 15) (.tmp 17) 3, none, [15, 17]⟩,
    ⟨(some 19), .move (.tmp 18), none, [18]⟩,
    ⟨(some 20), .fieldAddr 38 (.tmp 3) 1, (some (19, true)), []⟩,
    ⟨(some 21), .load 3 (.tmp 20), (some (19, true)), [20]⟩,
    ⟨(some 22), .binOp .eql 3 (.tmp 21) (.const (.int .i64 2)) 3, (some (19, true)), [21]⟩,
    ⟨(some 23), .move (.tmp 22), (some (19, true)), [22]⟩,
    ⟨(some 24), .move (.tmp 2), (some (23, true)), []⟩,
    ⟨(some 25), .binOp .eql 3 (.tmp 24) (.const (.int .i64 1)) 3, (some (23, true)), [24]⟩,
    ⟨(some 26), .pick (.tmp 23) (.tmp 25) (.const (.bool false)), (some (19, true)), [23, 25]⟩,
    ⟨(some 27), .move (.tmp 26), (some (19, true)), [26]⟩,
    ⟨(some 28), .move (.tmp 7), (some (27, true)), []⟩,
    ⟨(some 29), .binOp .eql 3 (.tmp 28) (.const (.int .i64 0)) 3, (some (27, true)), [28]⟩,
    ⟨(some 30), .pick (.tmp 27) (.tmp 29) (.const (.bool false)), (some (19, true)), [27, 29]⟩,
    ⟨(some 31), .move (.tmp 30), (some (19, true)), [30]⟩,
    ⟨(some 32), .fieldAddr 38 (.tmp 3) 1, (some (31, false)), []⟩,
    ⟨(some 33), .load 3 (.tmp 32), (some (31, false)), [32]⟩,
    ⟨(some 34), .binOp .eql 3 (.tmp 33) (.const (.int .i64 3)) 3, (some (31, false)), [33]⟩,
    ⟨(some 35), .move (.tmp 34), (some (31, false)), [34]⟩,
    ⟨(some 36), .move (.tmp 2), (some (35, true)), []⟩,
    ⟨(some 37), .binOp .eql 3 (.tmp 36) (.const (.int .i64 0)) 3, (some (35, true)), [36]⟩,
    ⟨(some 38), .pick (.tmp 35) (.tmp 37) (.const (.bool false)), (some (31, false)), [35, 37]⟩,
    ⟨(some 39), .move (.tmp 38), (some (31, false)), [38]⟩,
    ⟨(some 40), .move (.tmp 7), (some (39, true)), []⟩,
    ⟨(some 41), .binOp .eql 3 (.tmp 40) (.const (.int .i64 1)) 3, (some (39, true)), [40]⟩,
    ⟨(some 42), .pick (.tmp 39) (.tmp 41) (.const (.bool false)), (some (31, false)), [39, 41]⟩,
    ⟨(some 43), .pick (.tmp 31) (.const (.bool true)) (.tmp 42), (some (19, true)), [31, 42]⟩,
    ⟨(some 44), .pick (.tmp 19) (.tmp 43) (.const (.bool false)), none, [19, 43]⟩])
  (.cond (.tmp 44) (.seq (.reg [⟨(some 45), .load 38 (.tmp 3), none, []⟩,
    ⟨none, .store 38 (.tmp 6) (.tmp 45), none, [45]⟩])
  .ret)
  .skip))
  (.seq (.reg [⟨(some 46), .fieldAddr 38 (.tmp 3) 0, none, []⟩,
    ⟨(some 47), .load 36 (.tmp 46), none, [46]⟩,
    ⟨(some 48), .move (.tmp 1), none, []⟩,
    ⟨(some 49), .move (.tmp 2), none, []⟩,
    ⟨(some 50), .indexAddr 36 (.tmp 47) (.tmp 48), none, [47, 48]⟩,
    ⟨none, .store 3 (.tmp 50) (.tmp 49), none, [49, 50]⟩])
  (.seq (.reg [⟨(some 51), .move (.tmp 7), none, []⟩,
    ⟨(some 52), .binOp .eql 3 (.tmp 51) (.const (.int .i64 0)) 3, none, [51]⟩,
    ⟨(some 53), .move (.tmp 52), none, [52]⟩,
    ⟨(some 54), .move (.tmp 2), (some (53, true)), []⟩,
    ⟨(some 55), .binOp .eql 3 (.tmp 54) (.const (.int .i64 1)) 3, (some (53, true)), [54]⟩,
    ⟨(some 56), .pick (.tmp 53) (.tmp 55) (.const (.bool false)), none, [53, 55]⟩,
    ⟨(some 8), .assign (.tmp 56), none, [56]⟩])
  (.seq (.reg [⟨(some 57), .move (.tmp 7), none, []⟩,
    ⟨(some 58), .binOp .eql 3 (.tmp 57) (.const (.int .i64 1)) 3, none, [57]⟩,
    ⟨(some 59), .move (.tmp 58), none, [58]⟩,
    ⟨(some 60), .move (.tmp 2), (some (59, true)), []⟩,
    ⟨(some 61), .binOp .eql 3 (.tmp 60) (.const (.int .i64 0)) 3, (some (59, true)), [60]⟩,
    ⟨(some 62), .pick (.tmp 59) (.tmp 61) (.const (.bool false)), none, [59, 61]⟩,
    ⟨(some 9), .assign (.tmp 62), none, [62]⟩])
  (.seq (.seq (.reg [⟨(some 63), .move (.tmp 1), none, []⟩,
    ⟨(some 64), .fieldAddr 38 (.tmp 3) 3, none, []⟩,
    ⟨(some 65), .load 3 (.tmp 64), none, [64]⟩,
    ⟨(some 66), .binOp .eql 3 (.tmp 63) (.tmp 65) 3, none, [63, 65]⟩,
    ⟨(some 67), .move (.tmp 66), none, [66]⟩,
    ⟨(some 68), .fieldAddr 38 (.tmp 3) 1, (some (67, true)), []⟩,
    ⟨(some 69), .load 3 (.tmp 68), (some (67, true)), [68]⟩,
    ⟨(some 70), .binOp .geq 3 (.tmp 69) (.const (.int .i64 4)) 3, (some (67, true)), [69]⟩,
    ⟨(some 71), .pick (.tmp 67) (.tmp 70) (.const (.bool false)), none, [67, 70]⟩,
    ⟨(some 72), .move (.tmp 71), none, [71]⟩,
    ⟨(some 73), .fieldAddr 38 (.tmp 3) 1, (some (72, true)), []⟩,
    ⟨(some 74), .load 3 (.tmp 73), (some (72, true)), [73]⟩,
    ⟨(some 75), .binOp .leq 3 (.tmp 74) (.const (.int .i64 9)) 3, (some (72, true)), [74]⟩,
    ⟨(some 76), .pick (.tmp 72) (.tmp 75) (.const (.bool false)), none, [72, 75]⟩])
  (.cond (.tmp 76) (.seq (.reg [⟨(some 77), .fieldAddr 38 (.tmp 3) 1, none, []⟩,
    ⟨(some 78), .load 3 (.tmp 77), none, [77]⟩])
  (.block 0 (.seq (.reg [⟨(some 89), .binOp .eql 3 (.tmp 78) (.const (.int .i64 4)) 3, none, []⟩,
    ⟨(some 88), .assign (.tmp 89), none, [89]⟩])
  (.cond (.tmp 88) (.seq (.reg [⟨(some 90), .move (.tmp 8), none, []⟩])
  (.cond (.tmp 90) (.drw [⟨(some 91), .fieldAddr 38 (.tmp 3) 0, none, []⟩,
    ⟨(some 92), .load 36 (.tmp 91), none, [91]⟩,
    ⟨(some 93), .fieldAddr 38 (.tmp 3) 2, none, []⟩,
    ⟨(some 94), .load 3 (.tmp 93), none, [93]⟩,
    ⟨(some 95), .fieldAddr 38 (.tmp 3) 0, none, []⟩,
    ⟨(some 96), .load 36 (.tmp 95), none, [95]⟩,
    ⟨(some 97), .fieldAddr 38 (.tmp 3) 2, none, []⟩,
    ⟨(some 98), .load 3 (.tmp 97), none, [97]⟩,
    ⟨(some 99), .indexAddr 36 (.tmp 96) (.tmp 98), none, [96, 98]⟩,
    ⟨(some 100), .load 3 (.tmp 99), none, [99]⟩,
    ⟨(some 101), .binOp .sub 3 (.const (.int .i64 1)) (.tmp 100) 3, none, [100]⟩,
    ⟨(some 102), .indexAddr 36 (.tmp 92) (.tmp 94), none, [92, 94]⟩,
    ⟨none, .store 3 (.tmp 102) (.tmp 101), none, [101, 102]⟩] [0, 1, 0, 4, 0, 16, 0, 64, 240, 496, 1008, 2047, 4095])
  .skip))
  (.seq (.reg [⟨(some 104), .binOp .eql 3 (.tmp 78) (.const (.int .i64 5)) 3, none, []⟩,
    ⟨(some 103), .assign (.tmp 104), none, [104]⟩])
  (.cond (.tmp 103) (.seq (.reg [⟨(some 105), .move (.tmp 9), none, []⟩])
  (.cond (.tmp 105) (.drw [⟨(some 106), .fieldAddr 38 (.tmp 3) 0, none, []⟩,
    ⟨(some 107), .load 36 (.tmp 106), none, [106]⟩,
    ⟨(some 108), .fieldAddr 38 (.tmp 3) 2, none, []⟩,
    ⟨(some 109), .load 3 (.tmp 108), none, [108]⟩,
    ⟨(some 110), .fieldAddr 38 (.tmp 3) 0, none, []⟩,
    ⟨(some 111), .load 36 (.tmp 110), none, [110]⟩,
    ⟨(some 112), .fieldAddr 38 (.tmp 3) 2, none, []⟩,
    ⟨(some 113), .load 3 (.tmp 112), none, [112]⟩,
    ⟨(some 114), .indexAddr 36 (.tmp 111) (.tmp 113), none, [111, 113]⟩,
    ⟨(some 115), .load 3 (.tmp 114), none, [114]⟩,
    ⟨(some 116), .binOp .sub 3 (.const (.int .i64 1)) (.tmp 115) 3, none, [115]⟩,
    ⟨(some 117), .indexAddr 36 (.tmp 107) (.tmp 109), none, [107, 109]⟩,
    ⟨none, .store 3 (.tmp 117) (.tmp 116), none, [116, 117]⟩] [0, 1, 0, 4, 0, 16, 0, 64, 240, 496, 1008, 2047, 4095])
  .skip))
  (.seq (.seq (.reg [⟨(some 119), .binOp .eql 3 (.tmp 78) (.const (.int .i64 6)) 3, none, []⟩,
    ⟨(some 118), .assign (.tmp 119), none, [119]⟩])
  (.cond (.tmp 118) .skip
  (.reg [⟨(some 120), .binOp .eql 3 (.tmp 78) (.const (.int .i64 7)) 3, none, []⟩,
    ⟨(some 118), .assign (.tmp 120), none, [120]⟩])))
  (.cond (.tmp 118) (.seq (.reg [⟨(some 121), .move (.tmp 8), none, []⟩])
  (.cond (.tmp 121) (.reg [⟨(some 122), .fieldAddr 38 (.tmp 3) 0, none, []⟩,
    ⟨(some 123), .load 36 (.tmp 122), none, [122]⟩,
    ⟨(some 124), .fieldAddr 38 (.tmp 3) 2, none, []⟩,
    ⟨(some 125), .load 3 (.tmp 124), none, [124]⟩,
    ⟨(some 126), .fieldAddr 38 (.tmp 3) 1, none, []⟩,
    ⟨(some 127), .load 3 (.tmp 126), none, [126]⟩,
    ⟨(some 128), .binOp .sub 3 (.tmp 127) (.const (.int .i64 6)) 3, none, [127]⟩,
    ⟨(some 129), .indexAddr 36 (.tmp 123) (.tmp 125), none, [123, 125]⟩,
    ⟨none, .store 3 (.tmp 129) (.tmp 128), none, [128, 129]⟩])
  .skip))
  (.seq (.reg [⟨(some 79), .move (.tmp 9), none, []⟩])
  (.cond (.tmp 79) (.reg [⟨(some 80), .fieldAddr 38 (.tmp 3) 0, none, []⟩,
    ⟨(some 81), .load 36 (.tmp 80), none, [80]⟩,
    ⟨(some 82), .fieldAddr 38 (.tmp 3) 2, none, []⟩,
    ⟨(some 83), .load 3 (.tmp 82), none, [82]⟩,
    ⟨(some 84), .fieldAddr 38 (.tmp 3) 1, none, []⟩,
    ⟨(some 85), .load 3 (.tmp 84), none, [84]⟩,
    ⟨(some 86), .binOp .sub 3 (.tmp 85) (.const (.int .i64 8)) 3, none, [85]⟩,
    ⟨(some 87), .indexAddr 36 (.tmp 81) (.tmp 83), none, [81, 83]⟩,
    ⟨none, .store 3 (.tmp 87) (.tmp 86), none, [86, 87]⟩])
  .skip))))))))))
  .skip))
  (.seq (.reg [⟨(some 130), .load 38 (.tmp 3), none, []⟩,
    ⟨(some 131), .call ⟨.value (.func 26), #[(.tmp 130)], #[38]⟩, none, [130]⟩,
    ⟨none, .store 38 (.tmp 6) (.tmp 131), none, [131]⟩])
  .ret))))))))
theorem s31 : Stripped Try.prog 31 132 [.cell 6 38] C31 := ⟨Try.f31, _, [[[0], []], [[], [10], [], [11, 12], [13], [14]], [[], [], [16], [15, 17], [18], [], [20], [21], [22], [], [24], [23, 25], [26], [], [28], [27, 29], [30], [], [32], [33], [34], [], [36], [35, 37], [38], [], [40], [39, 41], [31, 42], [19, 43]], [[], [45]], [[], [46], [], [], [47, 48], [49, 50]], [[], [51], [52], [], [54], [53, 55], [56]], [[], [57], [58], [], [60], [59, 61], [62]], [[], [], [64], [63, 65], [66], [], [68], [69], [67, 70], [71], [], [73], [74], [72, 75]], [[], [77]], [[], [89]], [[]], [[], [91], [], [93], [], [95], [], [97], [96, 98], [99], [100], [92, 94], [101, 102]], [[], [104]], [[]], [[], [106], [], [108], [], [110], [], [112], [111, 113], [114], [115], [107, 109], [116, 117]], [[], [119]], [[], [120]], [[]], [[], [122], [], [124], [], [126], [127], [123, 125], [128, 129]], [[]], [[], [80], [], [82], [], [84], [85], [81, 83], [86, 87]], [[], [130], [131]]], [], Try.func31, rfl, by kernel_rfl, rfl, rfl, by kernel_rfl⟩
/- slices.Clip[[]probecard/api.Value,probecard/api.Value] -/
def C32 : CC := (.seq (.reg [⟨(some 2), .assign (.const (.slice none 0 0)), none, []⟩])
  (.seq (.reg [⟨(some 3), .move (.tmp 0), none, []⟩,
    ⟨(some 4), .move (.tmp 0), none, []⟩,
    ⟨(some 5), .call ⟨.builtin .len, #[(.tmp 4)], #[40]⟩, none, [4]⟩,
    ⟨(some 6), .move (.tmp 0), none, [0]⟩,
    ⟨(some 7), .call ⟨.builtin .len, #[(.tmp 6)], #[40]⟩, none, [6]⟩,
    ⟨(some 8), .slice 40 (.tmp 3) none (some (.tmp 5)) (some (.tmp 7)), none, [3, 5, 7]⟩,
    ⟨(some 2), .assign (.tmp 8), none, [8]⟩])
  .ret))
theorem s32 : Stripped Try.prog 32 9 [.tmp 2] C32 := ⟨Try.f32, _, [[[]], [[], [], [4], [0], [6], [3, 5, 7], [8]]], [], Try.func32, rfl, by kernel_rfl, rfl, rfl, by kernel_rfl⟩
/- slices.Clone[[]probecard/api.Value,probecard/api.Value] -/
def C33 : CC := (.seq (.reg [⟨(some 2), .assign (.const (.slice none 0 0)), none, []⟩])
  (.seq (.seq (.reg [⟨(some 3), .move (.tmp 0), none, []⟩,
    ⟨(some 4), .binOp .eql 40 (.tmp 3) (.const (.slice none 0 0)) 40, none, [3]⟩])
  (.cond (.tmp 4) (.seq (.reg [⟨(some 2), .assign (.const (.slice none 0 0)), none, []⟩])
  .ret)
  .skip))
  (.seq (.reg [⟨(some 5), .buildSlice 40 0 #[], none, []⟩,
    ⟨(some 6), .move (.tmp 0), none, []⟩,
    ⟨(some 7), .call ⟨.builtin .append, #[(.tmp 5), (.tmp 6)], #[40, 40]⟩, none, [5, 6]⟩,
    ⟨(some 2), .assign (.tmp 7), none, [7]⟩])
  .ret)))
theorem s33 : Stripped Try.prog 33 8 [.tmp 2] C33 := ⟨Try.f33, _, [[[]], [[], [3]], [[]], [[], [], [5, 6], [7]]], [], Try.func33, rfl, by kernel_rfl, rfl, rfl, by kernel_rfl⟩
/- probecard/defects.Check$1 -/
def C34 : CC := (.seq (.reg [⟨(some 3), .assign (.const (.bool false)), none, []⟩])
  (.seq (.reg [⟨(some 4), .move (.tmp 0), none, []⟩,
    ⟨(some 5), .binOp .geq 3 (.tmp 4) (.const (.int .i64 0)) 3, none, [4]⟩,
    ⟨(some 6), .move (.tmp 5), none, [5]⟩,
    ⟨(some 7), .move (.tmp 0), (some (6, true)), [0]⟩,
    ⟨(some 8), .load 3 (.tmp 1), (some (6, true)), [1]⟩,
    ⟨(some 9), .binOp .lss 3 (.tmp 7) (.tmp 8) 3, (some (6, true)), [7, 8]⟩,
    ⟨(some 10), .pick (.tmp 6) (.tmp 9) (.const (.bool false)), none, [6, 9]⟩,
    ⟨(some 3), .assign (.tmp 10), none, [10]⟩])
  .ret))
theorem s34 : Stripped Try.prog 34 11 [.tmp 3] C34 := ⟨Try.f34, _, [[[]], [[], [4], [5], [0], [1], [7, 8], [6, 9], [10]]], [], Try.func34, rfl, by kernel_rfl, rfl, rfl, by kernel_rfl⟩
/- slices.ContainsFunc[[]probecard/api.Value,probecard/api.Value] -/
def C35 : CC := (.seq (.reg [⟨(some 4), .assign (.const (.bool false)), none, []⟩])
  (.seq (.reg [⟨(some 5), .move (.tmp 0), none, [0]⟩,
    ⟨(some 6), .move (.tmp 1), none, [1]⟩,
    ⟨(some 7), .call ⟨.value (.func 39), #[(.tmp 5), (.tmp 6)], #[40, 66]⟩, none, [5, 6]⟩,
    ⟨(some 8), .binOp .geq 3 (.tmp 7) (.const (.int .i64 0)) 3, none, [7]⟩,
    ⟨(some 4), .assign (.tmp 8), none, [8]⟩])
  .ret))
theorem s35 : Stripped Try.prog 35 9 [.tmp 4] C35 := ⟨Try.f35, _, [[[]], [[0], [1], [5, 6], [7], [8]]], [], Try.func35, rfl, by kernel_rfl, rfl, rfl, by kernel_rfl⟩
/- probecard/defects.New$1 -/
def C36 : CC := (.seq (.reg [⟨(some 2), .assign (.const (.bool false)), none, []⟩])
  (.seq (.reg [⟨(some 3), .move (.tmp 0), none, [0]⟩,
    ⟨(some 4), .call ⟨.value (.func 28), #[(.tmp 3)], #[46]⟩, none, [3]⟩,
    ⟨(some 5), .unOp .not 4 (.tmp 4), none, [4]⟩,
    ⟨(some 2), .assign (.tmp 5), none, [5]⟩])
  .ret))
theorem s36 : Stripped Try.prog 36 6 [.tmp 2] C36 := ⟨Try.f36, _, [[[]], [[0], [3], [4], [5]]], [], Try.func36, rfl, by kernel_rfl, rfl, rfl, by kernel_rfl⟩
/- (*probecard/defects.Memory).hold -/
def C37 : CC := (.seq (.seq (.reg [⟨(some 3), .move (.tmp 0), none, []⟩,
    ⟨(some 4), .nilCheck (.tmp 3), none, [3]⟩,
    ⟨(some 5), .fieldAddr 57 (.tmp 4) 2, none, [4]⟩,
    ⟨(some 6), .load 4 (.tmp 5), none, [5]⟩,
    ⟨(some 7), .move (.tmp 6), none, [6]⟩,
    ⟨(some 8), .move (.tmp 0), (some (7, false)), []⟩,
    ⟨(some 9), .nilCheck (.tmp 8), (some (7, false)), [8]⟩,
    ⟨(some 10), .fieldAddr 57 (.tmp 9) 0, (some (7, false)), [9]⟩,
    ⟨(some 11), .fieldAddr 33 (.tmp 10) 0, (some (7, false)), [10]⟩,
    ⟨(some 12), .load 31 (.tmp 11), (some (7, false)), [11]⟩,
    ⟨(some 13), .binOp .lss 31 (.tmp 12) (.const (.int .u8 10)) 31, (some (7, false)), [12]⟩,
    ⟨(some 14), .pick (.tmp 7) (.const (.bool true)) (.tmp 13), none, [7, 13]⟩,
    ⟨(some 15), .move (.tmp 14), none, [14]⟩,
    ⟨(some 16), .move (.tmp 0), (some (15, false)), []⟩,
    ⟨(some 17), .nilCheck (.tmp 16), (some (15, false)), [16]⟩,
    ⟨(some 18), .fieldAddr 57 (.tmp 17) 0, (some (15, false)), [17]⟩,
    ⟨(some 19), .fieldAddr 33 (.tmp 18) 0, (some (15, false)), [18]⟩,
    ⟨(some 20), .load 31 (.tmp 19), (some (15, false)), [19]⟩,
    ⟨(some 21), .binOp .gtr 31 (.tmp 20) (.const (.int .u8 13)) 31, (some (15, false)), [20]⟩,
    ⟨(some 22), .pick (.tmp 15) (.const (.bool true)) (.tmp 21), none, [15, 21]⟩])
  (.cond (.tmp 22) .ret
  .skip))
  (.seq (.reg [⟨(some 23), .move (.tmp 0), none, []⟩,
    ⟨(some 24), .nilCheck (.tmp 23), none, [23]⟩,
    ⟨(some 25), .fieldAddr 57 (.tmp 24) 0, none, [24]⟩,
    ⟨(some 26), .fieldAddr 33 (.tmp 25) 0, none, [25]⟩,
    ⟨(some 27), .load 31 (.tmp 26), none, [26]⟩,
    ⟨(some 28), .binOp .sub 31 (.tmp 27) (.const (.int .u8 10)) 31, none, [27]⟩,
    ⟨(some 2), .assign (.tmp 28), none, [28]⟩])
  (.seq (.drw [⟨(some 29), .move (.tmp 0), none, []⟩,
    ⟨(some 30), .nilCheck (.tmp 29), none, [29]⟩,
    ⟨(some 31), .fieldAddr 57 (.tmp 30) 1, none, [30]⟩,
    ⟨(some 32), .load 40 (.tmp 31), none, [31]⟩,
    ⟨(some 33), .move (.tmp 0), none, []⟩,
    ⟨(some 34), .nilCheck (.tmp 33), none, [33]⟩,
    ⟨(some 35), .fieldAddr 57 (.tmp 34) 0, none, [34]⟩,
    ⟨(some 36), .fieldAddr 33 (.tmp 35) 2, none, [35]⟩,
    ⟨(some 37), .load 3 (.tmp 36), none, [36]⟩,
    ⟨(some 38), .indexAddr 40 (.tmp 32) (.tmp 37), none, [32, 37]⟩,
    ⟨(some 39), .load 46 (.tmp 38), none, [38]⟩,
    ⟨(some 40), .move (.tmp 2), none, []⟩,
    ⟨(some 41), .binOp .quo 46 (.tmp 40) (.const (.int .u8 2)) 46, none, [40]⟩,
    ⟨(some 42), .binOp .eql 46 (.tmp 39) (.tmp 41) 46, none, [39, 41]⟩] [0, 1, 3, 7, 0, 16, 48, 112, 240, 511, 1023, 0, 2048, 8191])
  (.cond (.tmp 42) (.drw [⟨(some 43), .move (.tmp 0), none, []⟩,
    ⟨(some 44), .nilCheck (.tmp 43), none, [43]⟩,
    ⟨(some 45), .fieldAddr 57 (.tmp 44) 1, none, [44]⟩,
    ⟨(some 46), .load 40 (.tmp 45), none, [45]⟩,
    ⟨(some 47), .move (.tmp 0), none, []⟩,
    ⟨(some 48), .nilCheck (.tmp 47), none, [47]⟩,
    ⟨(some 49), .fieldAddr 57 (.tmp 48) 0, none, [48]⟩,
    ⟨(some 50), .fieldAddr 33 (.tmp 49) 1, none, [49]⟩,
    ⟨(some 51), .load 3 (.tmp 50), none, [50]⟩,
    ⟨(some 52), .move (.tmp 2), none, []⟩,
    ⟨(some 53), .binOp .rem 46 (.tmp 52) (.const (.int .u8 2)) 46, none, [52]⟩,
    ⟨(some 54), .indexAddr 40 (.tmp 46) (.tmp 51), none, [46, 51]⟩,
    ⟨none, .store 46 (.tmp 54) (.tmp 53), none, [53, 54]⟩] [0, 1, 3, 7, 0, 16, 48, 112, 240, 0, 512, 2047, 4095])
  .skip))))
theorem s37 : Stripped Try.prog 37 55 [] C37 := ⟨Try.f37, _, [[[], [3], [4], [5], [6], [], [8], [9], [10], [11], [12], [7, 13], [14], [], [16], [17], [18], [19], [20], [15, 21]], [[], [23], [24], [25], [26], [27], [28]], [[], [29], [30], [31], [], [33], [34], [35], [36], [32, 37], [38], [], [40], [39, 41]], [[], [43], [44], [45], [], [47], [48], [49], [50], [], [52], [46, 51], [53, 54]]], [], Try.func37, rfl, by kernel_rfl, rfl, rfl, by kernel_rfl⟩
/- (*probecard/defects.Memory).couple -/
def C38 : CC := (.block 0 (.seq (.seq (.reg [⟨(some 5), .move (.tmp 0), none, []⟩,
    ⟨(some 6), .nilCheck (.tmp 5), none, [5]⟩,
    ⟨(some 7), .fieldAddr 57 (.tmp 6) 0, none, [6]⟩,
    ⟨(some 8), .fieldAddr 33 (.tmp 7) 0, none, [7]⟩,
    ⟨(some 9), .load 31 (.tmp 8), none, [8]⟩,
    ⟨(some 10), .binOp .eql 31 (.tmp 9) (.const (.int .u8 4)) 31, none, [9]⟩,
    ⟨(some 11), .move (.tmp 10), none, [10]⟩,
    ⟨(some 12), .move (.tmp 1), (some (11, true)), []⟩,
    ⟨(some 13), .binOp .eql 46 (.tmp 12) (.const (.int .u8 1)) 46, (some (11, true)), [12]⟩,
    ⟨(some 14), .pick (.tmp 11) (.tmp 13) (.const (.bool false)), none, [11, 13]⟩,
    ⟨(some 4), .assign (.tmp 14), none, [14]⟩])
  (.cond (.tmp 4) .skip
  (.reg [⟨(some 15), .move (.tmp 0), none, []⟩,
    ⟨(some 16), .nilCheck (.tmp 15), none, [15]⟩,
    ⟨(some 17), .fieldAddr 57 (.tmp 16) 0, none, [16]⟩,
    ⟨(some 18), .fieldAddr 33 (.tmp 17) 0, none, [17]⟩,
    ⟨(some 19), .load 31 (.tmp 18), none, [18]⟩,
    ⟨(some 20), .binOp .eql 31 (.tmp 19) (.const (.int .u8 5)) 31, none, [19]⟩,
    ⟨(some 21), .move (.tmp 20), none, [20]⟩,
    ⟨(some 22), .move (.tmp 1), (some (21, true)), []⟩,
    ⟨(some 23), .binOp .eql 46 (.tmp 22) (.const (.int .u8 0)) 46, (some (21, true)), [22]⟩,
    ⟨(some 24), .pick (.tmp 21) (.tmp 23) (.const (.bool false)), none, [21, 23]⟩,
    ⟨(some 4), .assign (.tmp 24), none, [24]⟩])))
  (.cond (.tmp 4) (.drw [⟨(some 25), .move (.tmp 0), none, []⟩,
    ⟨(some 26), .nilCheck (.tmp 25), none, [25]⟩,
    ⟨(some 27), .fieldAddr 57 (.tmp 26) 1, none, [26]⟩,
    ⟨(some 28), .load 40 (.tmp 27), none, [27]⟩,
    ⟨(some 29), .move (.tmp 0), none, []⟩,
    ⟨(some 30), .nilCheck (.tmp 29), none, [29]⟩,
    ⟨(some 31), .fieldAddr 57 (.tmp 30) 0, none, [30]⟩,
    ⟨(some 32), .fieldAddr 33 (.tmp 31) 1, none, [31]⟩,
    ⟨(some 33), .load 3 (.tmp 32), none, [32]⟩,
    ⟨(some 34), .indexAddr 40 (.tmp 28) (.tmp 33), none, []⟩,
    ⟨(some 35), .load 46 (.tmp 34), none, [34]⟩,
    ⟨(some 36), .binOp .xor 46 (.tmp 35) (.const (.int .u8 1)) 46, none, [35]⟩,
    ⟨(some 37), .indexAddr 40 (.tmp 28) (.tmp 33), none, [28, 33]⟩,
    ⟨none, .store 46 (.tmp 37) (.tmp 36), none, [36, 37]⟩] [0, 1, 3, 7, 0, 16, 48, 112, 240, 511, 1023, 2047, 4095, 8191])
  (.seq (.reg [⟨(some 39), .move (.tmp 0), none, []⟩,
    ⟨(some 40), .nilCheck (.tmp 39), none, [39]⟩,
    ⟨(some 41), .fieldAddr 57 (.tmp 40) 0, none, [40]⟩,
    ⟨(some 42), .fieldAddr 33 (.tmp 41) 0, none, [41]⟩,
    ⟨(some 43), .load 31 (.tmp 42), none, [42]⟩,
    ⟨(some 44), .binOp .eql 31 (.tmp 43) (.const (.int .u8 6)) 31, none, [43]⟩,
    ⟨(some 45), .move (.tmp 44), none, [44]⟩,
    ⟨(some 46), .move (.tmp 0), (some (45, false)), []⟩,
    ⟨(some 47), .nilCheck (.tmp 46), (some (45, false)), [46]⟩,
    ⟨(some 48), .fieldAddr 57 (.tmp 47) 0, (some (45, false)), [47]⟩,
    ⟨(some 49), .fieldAddr 33 (.tmp 48) 0, (some (45, false)), [48]⟩,
    ⟨(some 50), .load 31 (.tmp 49), (some (45, false)), [49]⟩,
    ⟨(some 51), .binOp .eql 31 (.tmp 50) (.const (.int .u8 7)) 31, (some (45, false)), [50]⟩,
    ⟨(some 52), .pick (.tmp 45) (.const (.bool true)) (.tmp 51), none, [45, 51]⟩,
    ⟨(some 53), .move (.tmp 52), none, [52]⟩,
    ⟨(some 54), .move (.tmp 1), (some (53, true)), []⟩,
    ⟨(some 55), .binOp .eql 46 (.tmp 54) (.const (.int .u8 1)) 46, (some (53, true)), [54]⟩,
    ⟨(some 56), .pick (.tmp 53) (.tmp 55) (.const (.bool false)), none, [53, 55]⟩,
    ⟨(some 38), .assign (.tmp 56), none, [56]⟩])
  (.cond (.tmp 38) (.drw [⟨(some 57), .move (.tmp 0), none, []⟩,
    ⟨(some 58), .nilCheck (.tmp 57), none, [57]⟩,
    ⟨(some 59), .fieldAddr 57 (.tmp 58) 1, none, [58]⟩,
    ⟨(some 60), .load 40 (.tmp 59), none, [59]⟩,
    ⟨(some 61), .move (.tmp 0), none, []⟩,
    ⟨(some 62), .nilCheck (.tmp 61), none, [61]⟩,
    ⟨(some 63), .fieldAddr 57 (.tmp 62) 0, none, [62]⟩,
    ⟨(some 64), .fieldAddr 33 (.tmp 63) 1, none, [63]⟩,
    ⟨(some 65), .load 3 (.tmp 64), none, [64]⟩,
    ⟨(some 66), .move (.tmp 0), none, []⟩,
    ⟨(some 67), .nilCheck (.tmp 66), none, [66]⟩,
    ⟨(some 68), .fieldAddr 57 (.tmp 67) 0, none, [67]⟩,
    ⟨(some 69), .fieldAddr 33 (.tmp 68) 0, none, [68]⟩,
    ⟨(some 70), .load 31 (.tmp 69), none, [69]⟩,
    ⟨(some 71), .binOp .sub 31 (.tmp 70) (.const (.int .u8 6)) 31, none, [70]⟩,
    ⟨(some 72), .indexAddr 40 (.tmp 60) (.tmp 65), none, [60, 65]⟩,
    ⟨none, .store 46 (.tmp 72) (.tmp 71), none, [71, 72]⟩] [0, 1, 3, 7, 0, 16, 48, 112, 240, 0, 512, 1536, 3584, 7680, 15872, 32767, 65535])
  (.seq (.reg [⟨(some 74), .move (.tmp 0), none, []⟩,
    ⟨(some 75), .nilCheck (.tmp 74), none, [74]⟩,
    ⟨(some 76), .fieldAddr 57 (.tmp 75) 0, none, [75]⟩,
    ⟨(some 77), .fieldAddr 33 (.tmp 76) 0, none, [76]⟩,
    ⟨(some 78), .load 31 (.tmp 77), none, [77]⟩,
    ⟨(some 79), .binOp .eql 31 (.tmp 78) (.const (.int .u8 8)) 31, none, [78]⟩,
    ⟨(some 80), .move (.tmp 79), none, [79]⟩,
    ⟨(some 81), .move (.tmp 0), (some (80, false)), []⟩,
    ⟨(some 82), .nilCheck (.tmp 81), (some (80, false)), [81]⟩,
    ⟨(some 83), .fieldAddr 57 (.tmp 82) 0, (some (80, false)), [82]⟩,
    ⟨(some 84), .fieldAddr 33 (.tmp 83) 0, (some (80, false)), [83]⟩,
    ⟨(some 85), .load 31 (.tmp 84), (some (80, false)), [84]⟩,
    ⟨(some 86), .binOp .eql 31 (.tmp 85) (.const (.int .u8 9)) 31, (some (80, false)), [85]⟩,
    ⟨(some 87), .pick (.tmp 80) (.const (.bool true)) (.tmp 86), none, [80, 86]⟩,
    ⟨(some 88), .move (.tmp 87), none, [87]⟩,
    ⟨(some 89), .move (.tmp 1), (some (88, true)), []⟩,
    ⟨(some 90), .binOp .eql 46 (.tmp 89) (.const (.int .u8 0)) 46, (some (88, true)), [89]⟩,
    ⟨(some 91), .pick (.tmp 88) (.tmp 90) (.const (.bool false)), none, [88, 90]⟩,
    ⟨(some 73), .assign (.tmp 91), none, [91]⟩])
  (.cond (.tmp 73) (.drw [⟨(some 92), .move (.tmp 0), none, []⟩,
    ⟨(some 93), .nilCheck (.tmp 92), none, [92]⟩,
    ⟨(some 94), .fieldAddr 57 (.tmp 93) 1, none, [93]⟩,
    ⟨(some 95), .load 40 (.tmp 94), none, [94]⟩,
    ⟨(some 96), .move (.tmp 0), none, []⟩,
    ⟨(some 97), .nilCheck (.tmp 96), none, [96]⟩,
    ⟨(some 98), .fieldAddr 57 (.tmp 97) 0, none, [97]⟩,
    ⟨(some 99), .fieldAddr 33 (.tmp 98) 1, none, [98]⟩,
    ⟨(some 100), .load 3 (.tmp 99), none, [99]⟩,
    ⟨(some 101), .move (.tmp 0), none, []⟩,
    ⟨(some 102), .nilCheck (.tmp 101), none, [101]⟩,
    ⟨(some 103), .fieldAddr 57 (.tmp 102) 0, none, [102]⟩,
    ⟨(some 104), .fieldAddr 33 (.tmp 103) 0, none, [103]⟩,
    ⟨(some 105), .load 31 (.tmp 104), none, [104]⟩,
    ⟨(some 106), .binOp .sub 31 (.tmp 105) (.const (.int .u8 8)) 31, none, [105]⟩,
    ⟨(some 107), .indexAddr 40 (.tmp 95) (.tmp 100), none, [95, 100]⟩,
    ⟨none, .store 46 (.tmp 107) (.tmp 106), none, [106, 107]⟩] [0, 1, 3, 7, 0, 16, 48, 112, 240, 0, 512, 1536, 3584, 7680, 15872, 32767, 65535])
  .skip)))))))
theorem s38 : Stripped Try.prog 38 108 [] C38 := ⟨Try.f38, _, [[[], [5], [6], [7], [8], [9], [10], [], [12], [11, 13], [14]], [[], [15], [16], [17], [18], [19], [20], [], [22], [21, 23], [24]], [[], [25], [26], [27], [], [29], [30], [31], [32], [], [34], [35], [28, 33], [36, 37]], [[], [39], [40], [41], [42], [43], [44], [], [46], [47], [48], [49], [50], [45, 51], [52], [], [54], [53, 55], [56]], [[], [57], [58], [59], [], [61], [62], [63], [64], [], [66], [67], [68], [69], [70], [60, 65], [71, 72]], [[], [74], [75], [76], [77], [78], [79], [], [81], [82], [83], [84], [85], [80, 86], [87], [], [89], [88, 90], [91]], [[], [92], [93], [94], [], [96], [97], [98], [99], [], [101], [102], [103], [104], [105], [95, 100], [106, 107]]], [], Try.func38, rfl, by kernel_rfl, rfl, rfl, by kernel_rfl⟩
/- slices.IndexFunc[[]probecard/api.Value,probecard/api.Value] -/
def C39 : CC := (.seq (.reg [⟨(some 4), .assign (.const (.int .i64 0)), none, []⟩])
  (.seq (.seq (.reg [⟨(some 6), .move (.tmp 0), none, []⟩,
    ⟨(some 7), .call ⟨.builtin .len, #[(.tmp 6)], #[40]⟩, none, [6]⟩,
    ⟨(some 8), .move (.const (.int .i64 0)), none, []⟩])
  (.block 0 (.loop (.seq (.reg [⟨(some 9), .binOp .lss 3 (.tmp 8) (.tmp 7) 3, none, []⟩])
  (.seq (.cond (.tmp 9) .skip
  (.exit 0))
  (.seq (.block 1 (.seq (.reg [⟨(some 10), .move (.tmp 8), none, []⟩,
    ⟨(some 5), .assign (.tmp 10), none, [10]⟩])
  (.seq (.reg [⟨(some 11), .move (.tmp 1), none, []⟩,
    ⟨(some 12), .move (.tmp 0), none, []⟩,
    ⟨(some 13), .move (.tmp 5), none, []⟩,
    ⟨(some 14), .indexAddr 40 (.tmp 12) (.tmp 13), none, [12, 13]⟩,
    ⟨(some 15), .load 46 (.tmp 14), none, [14]⟩,
    ⟨(some 16), .call ⟨.value (.tmp 11), #[(.tmp 15)], #[46]⟩, none, [11, 15]⟩])
  (.cond (.tmp 16) (.seq (.reg [⟨(some 17), .move (.tmp 5), none, []⟩,
    ⟨(some 4), .assign (.tmp 17), none, [17]⟩])
  .ret)
  .skip))))
  (.reg [⟨(some 18), .binOp .add 3 (.tmp 8) (.const (.int .i64 1)) 3, none, []⟩,
    ⟨(some 8), .move (.tmp 18), none, [18]⟩])))))))
  (.seq (.reg [⟨(some 4), .assign (.const (.int .i64 (-1))), none, []⟩])
  .ret)))
theorem s39 : Stripped Try.prog 39 19 [.tmp 4] C39 := ⟨Try.f39, _, [[[]], [[], [6], []], [[]], [[], [10]], [[], [], [], [12, 13], [14], [11, 15]], [[], [17]], [[], [18]], [[]]], [], Try.func39, rfl, by kernel_rfl, rfl, rfl, by kernel_rfl⟩
end Go.Proofs.Ythchfbanjeiieaa
