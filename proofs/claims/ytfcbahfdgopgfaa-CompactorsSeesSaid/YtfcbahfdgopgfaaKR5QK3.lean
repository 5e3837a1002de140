/-
  The stripped code of this seat's functions.
-/
import Derived.Test.YtfcbahfdgopgfaaKR5QK1
set_option linter.unusedSimpArgs false
set_option linter.unusedVariables false
namespace Go.Proofs.Ytfcbahfdgopgfaa
open Go.Abs
/- probecard/probecardlaw33.CompactorsOutputs -/
def C3 : CC := (.seq (.reg [⟨(some 2), .box 24 (.tmp 0), none, [0]⟩,
    ⟨(some 3), .box 28 (.tmp 1), none, [1]⟩,
    ⟨(some 4), .assign (.const (.bool false)), none, []⟩])
  (.seq (.seq (.reg [⟨(some 25), .fieldAddr 24 (.tmp 2) 1, none, []⟩,
    ⟨(some 26), .load 22 (.tmp 25), none, [25]⟩,
    ⟨(some 27), .call ⟨.builtin .len, #[(.tmp 26)], #[22]⟩, none, [26]⟩,
    ⟨(some 28), .binOp .gtr 3 (.tmp 27) (.const (.int .i64 12)) 3, none, [27]⟩])
  (.cond (.tmp 28) (.seq (.reg [⟨(some 29), .call ⟨.value (.func 9), #[], #[]⟩, none, []⟩,
    ⟨(some 4), .assign (.tmp 29), none, [29]⟩])
  .ret)
  .skip))
  (.seq (.reg [⟨(some 30), .load 24 (.tmp 2), none, []⟩,
    ⟨(some 31), .call ⟨.value (.func 10), #[(.tmp 30)], #[24]⟩, none, [30]⟩,
    ⟨(some 5), .alloc 32, none, []⟩,
    ⟨none, .store 32 (.tmp 5) (.tmp 31), none, [31]⟩])
  (.seq (.reg [⟨(some 32), .fieldAddr 32 (.tmp 5) 1, none, []⟩,
    ⟨(some 33), .load 30 (.tmp 32), none, [32]⟩,
    ⟨(some 34), .call ⟨.builtin .len, #[(.tmp 33)], #[30]⟩, none, [33]⟩,
    ⟨(some 6), .assign (.tmp 34), none, [34]⟩])
  (.seq (.drw [⟨(some 35), .fieldAddr 28 (.tmp 3) 0, none, []⟩,
    ⟨(some 36), .load 25 (.tmp 35), none, [35]⟩,
    ⟨(some 37), .move (.tmp 6), none, []⟩,
    ⟨(some 38), .call ⟨.value (.func 11), #[(.tmp 36), (.tmp 37)], #[25, 3]⟩, none, [36, 37]⟩,
    ⟨(some 39), .fieldAddr 28 (.tmp 3) 1, none, []⟩,
    ⟨(some 40), .load 25 (.tmp 39), none, [39]⟩,
    ⟨(some 41), .move (.tmp 6), none, []⟩,
    ⟨(some 42), .call ⟨.value (.func 11), #[(.tmp 40), (.tmp 41)], #[25, 3]⟩, none, [40, 41]⟩,
    ⟨(some 7), .assign (.tmp 38), none, [38]⟩,
    ⟨(some 8), .assign (.tmp 42), none, [42]⟩] [0, 1, 0, 7, 0, 16, 0, 127, 255, 511])
  (.seq (.drw [⟨(some 43), .fieldAddr 28 (.tmp 3) 2, none, []⟩,
    ⟨(some 44), .load 26 (.tmp 43), none, [43]⟩,
    ⟨(some 45), .move (.tmp 6), none, []⟩,
    ⟨(some 46), .binOp .shl 26 (.const (.int .u64 1)) (.tmp 45) 3, none, [45]⟩,
    ⟨(some 47), .binOp .rem 26 (.tmp 44) (.tmp 46) 26, none, [44, 46]⟩,
    ⟨(some 9), .assign (.tmp 47), none, [47]⟩] [0, 1, 0, 4, 15, 31])
  (.seq (.reg [⟨(some 49), .load 32 (.tmp 5), none, []⟩,
    ⟨(some 50), .move (.tmp 7), none, []⟩,
    ⟨(some 51), .move (.tmp 9), none, []⟩,
    ⟨(some 52), .call ⟨.value (.func 12), #[(.tmp 49), (.tmp 50), (.tmp 51)], #[32, 34, 26]⟩, none, [49, 50, 51]⟩,
    ⟨(some 48), .move (.tmp 52), none, [52]⟩,
    ⟨(some 53), .extract (.tmp 48) 0, none, []⟩,
    ⟨(some 54), .extract (.tmp 48) 1, none, [48]⟩,
    ⟨(some 10), .assign (.tmp 53), none, [53]⟩,
    ⟨(some 11), .assign (.tmp 54), none, [54]⟩])
  (.seq (.reg [⟨(some 56), .load 32 (.tmp 5), none, []⟩,
    ⟨(some 57), .move (.tmp 8), none, []⟩,
    ⟨(some 58), .move (.tmp 9), none, []⟩,
    ⟨(some 59), .call ⟨.value (.func 12), #[(.tmp 56), (.tmp 57), (.tmp 58)], #[32, 34, 26]⟩, none, [56, 57, 58]⟩,
    ⟨(some 55), .move (.tmp 59), none, [59]⟩,
    ⟨(some 60), .extract (.tmp 55) 0, none, []⟩,
    ⟨(some 61), .extract (.tmp 55) 1, none, [55]⟩,
    ⟨(some 12), .assign (.tmp 60), none, [60]⟩,
    ⟨(some 13), .assign (.tmp 61), none, [61]⟩])
  (.seq (.reg [⟨(some 63), .load 32 (.tmp 5), none, []⟩,
    ⟨(some 64), .move (.tmp 7), none, []⟩,
    ⟨(some 65), .move (.tmp 8), none, []⟩,
    ⟨(some 66), .move (.tmp 9), none, []⟩,
    ⟨(some 67), .call ⟨.value (.func 13), #[(.tmp 63), (.tmp 64), (.tmp 65), (.tmp 66)], #[32, 34, 34, 26]⟩, none, [63, 64, 65, 66]⟩,
    ⟨(some 62), .move (.tmp 67), none, [67]⟩,
    ⟨(some 68), .extract (.tmp 62) 0, none, []⟩,
    ⟨(some 69), .extract (.tmp 62) 1, none, [62]⟩,
    ⟨(some 14), .assign (.tmp 68), none, [68]⟩,
    ⟨(some 15), .assign (.tmp 69), none, [69]⟩])
  (.seq (.reg [⟨(some 71), .move (.tmp 7), none, []⟩,
    ⟨(some 72), .call ⟨.value (.func 14), #[(.tmp 71)], #[34]⟩, none, [71]⟩,
    ⟨(some 70), .move (.tmp 72), none, [72]⟩,
    ⟨(some 73), .extract (.tmp 70) 0, none, []⟩,
    ⟨(some 74), .extract (.tmp 70) 1, none, [70]⟩,
    ⟨(some 16), .assign (.tmp 73), none, [73]⟩,
    ⟨(some 17), .assign (.tmp 74), none, [74]⟩])
  (.seq (.reg [⟨(some 76), .load 32 (.tmp 5), none, []⟩,
    ⟨(some 77), .move (.tmp 7), none, []⟩,
    ⟨(some 78), .move (.tmp 16), none, []⟩,
    ⟨(some 79), .call ⟨.value (.func 12), #[(.tmp 76), (.tmp 77), (.tmp 78)], #[32, 34, 26]⟩, none, [76, 77, 78]⟩,
    ⟨(some 75), .move (.tmp 79), none, [79]⟩,
    ⟨(some 80), .extract (.tmp 75) 0, none, []⟩,
    ⟨(some 81), .extract (.tmp 75) 1, none, [75]⟩,
    ⟨(some 18), .assign (.tmp 80), none, [80]⟩,
    ⟨(some 19), .assign (.tmp 81), none, [81]⟩])
  (.seq (.seq (.reg [⟨(some 82), .move (.tmp 11), none, []⟩,
    ⟨(some 83), .binOp .neq 36 (.tmp 82) (.const (.int .i64 0)) 36, none, [82]⟩,
    ⟨(some 84), .move (.tmp 83), none, [83]⟩,
    ⟨(some 85), .move (.tmp 13), (some (84, false)), []⟩,
    ⟨(some 86), .binOp .neq 36 (.tmp 85) (.const (.int .i64 0)) 36, (some (84, false)), [85]⟩,
    ⟨(some 87), .pick (.tmp 84) (.const (.bool true)) (.tmp 86), none, [84, 86]⟩,
    ⟨(some 88), .move (.tmp 87), none, [87]⟩,
    ⟨(some 89), .move (.tmp 15), (some (88, false)), []⟩,
    ⟨(some 90), .binOp .neq 36 (.tmp 89) (.const (.int .i64 0)) 36, (some (88, false)), [89]⟩,
    ⟨(some 91), .pick (.tmp 88) (.const (.bool true)) (.tmp 90), none, [88, 90]⟩,
    ⟨(some 92), .move (.tmp 91), none, [91]⟩,
    ⟨(some 93), .move (.tmp 17), (some (92, false)), []⟩,
    ⟨(some 94), .binOp .neq 36 (.tmp 93) (.const (.int .i64 0)) 36, (some (92, false)), [93]⟩,
    ⟨(some 95), .pick (.tmp 92) (.const (.bool true)) (.tmp 94), none, [92, 94]⟩,
    ⟨(some 96), .move (.tmp 95), none, [95]⟩,
    ⟨(some 97), .move (.tmp 19), (some (96, false)), []⟩,
    ⟨(some 98), .binOp .neq 36 (.tmp 97) (.const (.int .i64 0)) 36, (some (96, false)), [97]⟩,
    ⟨(some 99), .pick (.tmp 96) (.const (.bool true)) (.tmp 98), none, [96, 98]⟩,
    ⟨(some 100), .move (.tmp 99), none, [99]⟩,
    ⟨(some 101), .move (.tmp 10), (some (100, false)), []⟩,
    ⟨(some 102), .call ⟨.builtin .len, #[(.tmp 101)], #[34]⟩, (some (100, false)), [101]⟩,
    ⟨(some 103), .fieldAddr 32 (.tmp 5) 0, (some (100, false)), []⟩,
    ⟨(some 104), .load 3 (.tmp 103), (some (100, false)), [103]⟩,
    ⟨(some 105), .binOp .neq 3 (.tmp 102) (.tmp 104) 3, (some (100, false)), [102, 104]⟩,
    ⟨(some 106), .pick (.tmp 100) (.const (.bool true)) (.tmp 105), none, [100, 105]⟩,
    ⟨(some 107), .move (.tmp 106), none, [106]⟩,
    ⟨(some 108), .move (.tmp 12), (some (107, false)), []⟩,
    ⟨(some 109), .call ⟨.builtin .len, #[(.tmp 108)], #[34]⟩, (some (107, false)), [108]⟩,
    ⟨(some 110), .fieldAddr 32 (.tmp 5) 0, (some (107, false)), []⟩,
    ⟨(some 111), .load 3 (.tmp 110), (some (107, false)), [110]⟩,
    ⟨(some 112), .binOp .neq 3 (.tmp 109) (.tmp 111) 3, (some (107, false)), [109, 111]⟩,
    ⟨(some 113), .pick (.tmp 107) (.const (.bool true)) (.tmp 112), none, [107, 112]⟩,
    ⟨(some 114), .move (.tmp 113), none, [113]⟩,
    ⟨(some 115), .move (.tmp 18), (some (114, false)), []⟩,
    ⟨(some 116), .call ⟨.builtin .len, #[(.tmp 115)], #[34]⟩, (some (114, false)), [115]⟩,
    ⟨(some 117), .fieldAddr 32 (.tmp 5) 0, (some (114, false)), []⟩,
    ⟨(some 118), .load 3 (.tmp 117), (some (114, false)), [117]⟩,
    ⟨(some 119), .binOp .neq 3 (.tmp 116) (.tmp 118) 3, (some (114, false)), [116, 118]⟩,
    ⟨(some 120), .pick (.tmp 114) (.const (.bool true)) (.tmp 119), none, [114, 119]⟩])
  (.cond (.tmp 120) (.seq (.reg [⟨(some 4), .assign (.const (.bool false)), none, []⟩])
  .ret)
  .skip))
  (.seq (.reg [⟨(some 20), .assign (.const (.int .i64 0)), none, []⟩])
  (.seq (.seq (.reg [⟨(some 21), .assign (.const (.int .i64 0)), none, []⟩])
  (.block 0 (.loop (.seq (.seq (.reg [⟨(some 121), .move (.tmp 21), none, []⟩,
    ⟨(some 122), .fieldAddr 32 (.tmp 5) 0, none, []⟩,
    ⟨(some 123), .load 3 (.tmp 122), none, [122]⟩,
    ⟨(some 124), .binOp .lss 3 (.tmp 121) (.tmp 123) 3, none, [121, 123]⟩])
  (.cond (.tmp 124) .skip
  (.exit 0)))
  (.seq (.block 1 (.seq (.drw [⟨(some 127), .load 32 (.tmp 5), none, []⟩,
    ⟨(some 128), .move (.tmp 7), none, []⟩,
    ⟨(some 129), .move (.tmp 9), none, []⟩,
    ⟨(some 130), .move (.tmp 21), none, []⟩,
    ⟨(some 131), .call ⟨.value (.func 15), #[(.tmp 127), (.tmp 128), (.tmp 129), (.tmp 130)], #[32, 34, 26, 3]⟩, none, [127, 128, 129, 130]⟩,
    ⟨(some 132), .load 32 (.tmp 5), none, []⟩,
    ⟨(some 133), .move (.tmp 8), none, []⟩,
    ⟨(some 134), .move (.tmp 9), none, []⟩,
    ⟨(some 135), .move (.tmp 21), none, []⟩,
    ⟨(some 136), .call ⟨.value (.func 15), #[(.tmp 132), (.tmp 133), (.tmp 134), (.tmp 135)], #[32, 34, 26, 3]⟩, none, [132, 133, 134, 135]⟩,
    ⟨(some 22), .assign (.tmp 131), none, [131]⟩,
    ⟨(some 23), .assign (.tmp 136), none, [136]⟩] [0, 0, 0, 0, 15, 0, 0, 0, 0, 511, 1023, 2047])
  (.seq (.seq (.reg [⟨(some 137), .move (.tmp 10), none, []⟩,
    ⟨(some 138), .move (.tmp 21), none, []⟩,
    ⟨(some 139), .indexAddr 34 (.tmp 137) (.tmp 138), none, [137, 138]⟩,
    ⟨(some 140), .load 44 (.tmp 139), none, [139]⟩,
    ⟨(some 141), .move (.tmp 22), none, []⟩,
    ⟨(some 142), .binOp .neq 44 (.tmp 140) (.tmp 141) 44, none, [140, 141]⟩,
    ⟨(some 143), .move (.tmp 142), none, [142]⟩,
    ⟨(some 144), .move (.tmp 12), (some (143, false)), []⟩,
    ⟨(some 145), .move (.tmp 21), (some (143, false)), []⟩,
    ⟨(some 146), .indexAddr 34 (.tmp 144) (.tmp 145), (some (143, false)), [144, 145]⟩,
    ⟨(some 147), .load 44 (.tmp 146), (some (143, false)), [146]⟩,
    ⟨(some 148), .move (.tmp 23), (some (143, false)), []⟩,
    ⟨(some 149), .binOp .neq 44 (.tmp 147) (.tmp 148) 44, (some (143, false)), [147, 148]⟩,
    ⟨(some 150), .pick (.tmp 143) (.const (.bool true)) (.tmp 149), none, [143, 149]⟩,
    ⟨(some 151), .move (.tmp 150), none, [150]⟩,
    ⟨(some 152), .move (.tmp 18), (some (151, false)), []⟩,
    ⟨(some 153), .move (.tmp 21), (some (151, false)), []⟩,
    ⟨(some 154), .indexAddr 34 (.tmp 152) (.tmp 153), (some (151, false)), [152, 153]⟩,
    ⟨(some 155), .load 44 (.tmp 154), (some (151, false)), [154]⟩,
    ⟨(some 156), .binOp .eql 44 (.tmp 155) (.const (.int .u8 2)) 44, (some (151, false)), [155]⟩,
    ⟨(some 157), .pick (.tmp 151) (.const (.bool true)) (.tmp 156), none, [151, 156]⟩])
  (.cond (.tmp 157) (.seq (.reg [⟨(some 4), .assign (.const (.bool false)), none, []⟩])
  .ret)
  .skip))
  (.seq (.reg [⟨(some 158), .move (.tmp 22), none, []⟩,
    ⟨(some 159), .binOp .neq 44 (.tmp 158) (.const (.int .u8 2)) 44, none, [158]⟩,
    ⟨(some 160), .move (.tmp 159), none, [159]⟩,
    ⟨(some 161), .move (.tmp 23), (some (160, true)), []⟩,
    ⟨(some 162), .binOp .neq 44 (.tmp 161) (.const (.int .u8 2)) 44, (some (160, true)), [161]⟩,
    ⟨(some 163), .pick (.tmp 160) (.tmp 162) (.const (.bool false)), none, [160, 162]⟩,
    ⟨(some 164), .move (.tmp 163), none, [163]⟩,
    ⟨(some 165), .move (.tmp 22), (some (164, true)), []⟩,
    ⟨(some 166), .move (.tmp 23), (some (164, true)), []⟩,
    ⟨(some 167), .binOp .neq 44 (.tmp 165) (.tmp 166) 44, (some (164, true)), [165, 166]⟩,
    ⟨(some 168), .pick (.tmp 164) (.tmp 167) (.const (.bool false)), none, [164, 167]⟩])
  (.cond (.tmp 168) (.seq (.seq (.reg [⟨(some 169), .move (.tmp 20), none, []⟩,
    ⟨(some 170), .move (.tmp 14), none, []⟩,
    ⟨(some 171), .call ⟨.builtin .len, #[(.tmp 170)], #[39]⟩, none, [170]⟩,
    ⟨(some 172), .binOp .geq 3 (.tmp 169) (.tmp 171) 3, none, [169, 171]⟩,
    ⟨(some 173), .move (.tmp 172), none, [172]⟩,
    ⟨(some 174), .move (.tmp 14), (some (173, false)), []⟩,
    ⟨(some 175), .move (.tmp 20), (some (173, false)), []⟩,
    ⟨(some 176), .indexAddr 39 (.tmp 174) (.tmp 175), (some (173, false)), [174, 175]⟩,
    ⟨(some 177), .load 3 (.tmp 176), (some (173, false)), [176]⟩,
    ⟨(some 178), .move (.tmp 21), (some (173, false)), []⟩,
    ⟨(some 179), .binOp .neq 3 (.tmp 177) (.tmp 178) 3, (some (173, false)), [177, 178]⟩,
    ⟨(some 180), .pick (.tmp 173) (.const (.bool true)) (.tmp 179), none, [173, 179]⟩])
  (.cond (.tmp 180) (.seq (.reg [⟨(some 4), .assign (.const (.bool false)), none, []⟩])
  .ret)
  .skip))
  (.reg [⟨(some 181), .move (.tmp 20), none, []⟩,
    ⟨(some 182), .binOp .add 3 (.tmp 181) (.const (.int .i64 1)) 3, none, [181]⟩,
    ⟨(some 20), .assign (.tmp 182), none, [182]⟩]))
  .skip)))))
  (.reg [⟨(some 125), .move (.tmp 21), none, []⟩,
    ⟨(some 126), .binOp .add 3 (.tmp 125) (.const (.int .i64 1)) 3, none, [125]⟩,
    ⟨(some 21), .assign (.tmp 126), none, [126]⟩]))))))
  (.seq (.seq (.reg [⟨(some 24), .assign (.const (.int .i64 0)), none, []⟩])
  (.block 2 (.loop (.seq (.seq (.reg [⟨(some 183), .move (.tmp 24), none, []⟩,
    ⟨(some 184), .move (.tmp 6), none, []⟩,
    ⟨(some 185), .binOp .lss 3 (.tmp 183) (.tmp 184) 3, none, [183, 184]⟩])
  (.cond (.tmp 185) .skip
  (.exit 2)))
  (.seq (.block 3 (.seq (.drw [⟨(some 188), .move (.tmp 16), none, []⟩,
    ⟨(some 189), .move (.tmp 24), none, []⟩,
    ⟨(some 190), .binOp .shr 26 (.tmp 188) (.tmp 189) 3, none, [188, 189]⟩,
    ⟨(some 191), .binOp .rem 26 (.tmp 190) (.const (.int .u64 2)) 26, none, [190]⟩,
    ⟨(some 192), .binOp .eql 26 (.tmp 191) (.const (.int .u64 1)) 26, none, [191]⟩,
    ⟨(some 193), .move (.tmp 7), none, []⟩,
    ⟨(some 194), .move (.tmp 24), none, []⟩,
    ⟨(some 195), .indexAddr 34 (.tmp 193) (.tmp 194), none, [193, 194]⟩,
    ⟨(some 196), .load 44 (.tmp 195), none, [195]⟩,
    ⟨(some 197), .binOp .eql 44 (.tmp 196) (.const (.int .u8 2)) 44, none, [196]⟩,
    ⟨(some 198), .binOp .neq 4 (.tmp 192) (.tmp 197) 4, none, [192, 197]⟩] [0, 0, 3, 7, 15, 0, 0, 96, 224, 480, 1023])
  (.cond (.tmp 198) (.seq (.reg [⟨(some 4), .assign (.const (.bool false)), none, []⟩])
  .ret)
  .skip)))
  (.reg [⟨(some 186), .move (.tmp 24), none, []⟩,
    ⟨(some 187), .binOp .add 3 (.tmp 186) (.const (.int .i64 1)) 3, none, [186]⟩,
    ⟨(some 24), .assign (.tmp 187), none, [187]⟩]))))))
  (.seq (.reg [⟨(some 199), .move (.tmp 20), none, []⟩,
    ⟨(some 200), .move (.tmp 14), none, []⟩,
    ⟨(some 201), .call ⟨.builtin .len, #[(.tmp 200)], #[39]⟩, none, [200]⟩,
    ⟨(some 202), .binOp .eql 3 (.tmp 199) (.tmp 201) 3, none, [199, 201]⟩,
    ⟨(some 203), .move (.tmp 202), none, [202]⟩,
    ⟨(some 204), .move (.tmp 16), (some (203, true)), []⟩,
    ⟨(some 205), .move (.tmp 6), (some (203, true)), []⟩,
    ⟨(some 206), .binOp .shr 26 (.tmp 204) (.tmp 205) 3, (some (203, true)), [204, 205]⟩,
    ⟨(some 207), .binOp .eql 26 (.tmp 206) (.const (.int .u64 0)) 26, (some (203, true)), [206]⟩,
    ⟨(some 208), .pick (.tmp 203) (.tmp 207) (.const (.bool false)), none, [203, 207]⟩,
    ⟨(some 209), .move (.tmp 208), none, [208]⟩,
    ⟨(some 210), .call ⟨.value (.func 9), #[], #[]⟩, (some (209, true)), []⟩,
    ⟨(some 211), .pick (.tmp 209) (.tmp 210) (.const (.bool false)), none, [209, 210]⟩,
    ⟨(some 4), .assign (.tmp 211), none, [211]⟩])
  .ret))))))))))))))))
theorem s3 : Stripped Try.prog 3 212 [.tmp 4] C3 := ⟨Try.f3, _, [[[0], [1], []], [[], [25], [26], [27]], [[], [29]], [[], [30], [], [31]], [[], [32], [33], [34]], [[], [35], [], [36, 37], [], [39], [], [40, 41], [38], [42]], [[], [43], [], [45], [44, 46], [47]], [[], [], [], [49, 50, 51], [52], [], [48], [53], [54]], [[], [], [], [56, 57, 58], [59], [], [55], [60], [61]], [[], [], [], [], [63, 64, 65, 66], [67], [], [62], [68], [69]], [[], [71], [72], [], [70], [73], [74]], [[], [], [], [76, 77, 78], [79], [], [75], [80], [81]], [[], [82], [83], [], [85], [84, 86], [87], [], [89], [88, 90], [91], [], [93], [92, 94], [95], [], [97], [96, 98], [99], [], [101], [], [103], [102, 104], [100, 105], [106], [], [108], [], [110], [109, 111], [107, 112], [113], [], [115], [], [117], [116, 118], [114, 119]], [[]], [[]], [[]], [[], [], [122], [121, 123]], [[], [], [], [], [127, 128, 129, 130], [], [], [], [], [132, 133, 134, 135], [131], [136]], [[], [], [137, 138], [139], [], [140, 141], [142], [], [], [144, 145], [146], [], [147, 148], [143, 149], [150], [], [], [152, 153], [154], [155], [151, 156]], [[]], [[], [158], [159], [], [161], [160, 162], [163], [], [], [165, 166], [164, 167]], [[], [], [170], [169, 171], [172], [], [], [174, 175], [176], [], [177, 178], [173, 179]], [[]], [[], [181], [182]], [[], [125], [126]], [[]], [[], [], [183, 184]], [[], [], [188, 189], [190], [191], [], [], [193, 194], [195], [196], [192, 197]], [[]], [[], [186], [187]], [[], [], [200], [199, 201], [202], [], [], [204, 205], [206], [203, 207], [208], [], [209, 210], [211]]], [], Try.func3, rfl, by kernel_rfl, rfl, rfl, by kernel_rfl⟩
/- probecard/probecardlaw33.CompactorsKeeps -/
def C4 : CC := (.seq (.reg [⟨(some 3), .box 24 (.tmp 0), none, [0]⟩,
    ⟨(some 4), .box 28 (.tmp 1), none, [1]⟩,
    ⟨(some 6), .assign (.const (.bool false)), none, []⟩])
  (.seq (.seq (.reg [⟨(some 28), .fieldAddr 24 (.tmp 3) 1, none, []⟩,
    ⟨(some 29), .load 22 (.tmp 28), none, [28]⟩,
    ⟨(some 30), .call ⟨.builtin .len, #[(.tmp 29)], #[22]⟩, none, [29]⟩,
    ⟨(some 31), .binOp .gtr 3 (.tmp 30) (.const (.int .i64 12)) 3, none, [30]⟩])
  (.cond (.tmp 31) (.seq (.reg [⟨(some 32), .call ⟨.value (.func 9), #[], #[]⟩, none, []⟩,
    ⟨(some 6), .assign (.tmp 32), none, [32]⟩])
  .ret)
  .skip))
  (.seq (.reg [⟨(some 33), .load 24 (.tmp 3), none, []⟩,
    ⟨(some 34), .call ⟨.value (.func 10), #[(.tmp 33)], #[24]⟩, none, [33]⟩,
    ⟨(some 7), .alloc 32, none, []⟩,
    ⟨none, .store 32 (.tmp 7) (.tmp 34), none, [34]⟩])
  (.seq (.reg [⟨(some 35), .fieldAddr 32 (.tmp 7) 1, none, []⟩,
    ⟨(some 36), .load 30 (.tmp 35), none, [35]⟩,
    ⟨(some 37), .call ⟨.builtin .len, #[(.tmp 36)], #[30]⟩, none, [36]⟩,
    ⟨(some 8), .assign (.tmp 37), none, [37]⟩])
  (.seq (.drw [⟨(some 38), .fieldAddr 28 (.tmp 4) 0, none, []⟩,
    ⟨(some 39), .load 25 (.tmp 38), none, [38]⟩,
    ⟨(some 40), .move (.tmp 8), none, []⟩,
    ⟨(some 41), .call ⟨.value (.func 11), #[(.tmp 39), (.tmp 40)], #[25, 3]⟩, none, [39, 40]⟩,
    ⟨(some 42), .fieldAddr 28 (.tmp 4) 1, none, []⟩,
    ⟨(some 43), .load 25 (.tmp 42), none, [42]⟩,
    ⟨(some 44), .move (.tmp 8), none, []⟩,
    ⟨(some 45), .call ⟨.value (.func 11), #[(.tmp 43), (.tmp 44)], #[25, 3]⟩, none, [43, 44]⟩,
    ⟨(some 9), .assign (.tmp 41), none, [41]⟩,
    ⟨(some 10), .assign (.tmp 45), none, [45]⟩] [0, 1, 0, 7, 0, 16, 0, 127, 255, 511])
  (.seq (.drw [⟨(some 46), .fieldAddr 28 (.tmp 4) 2, none, []⟩,
    ⟨(some 47), .load 26 (.tmp 46), none, [46]⟩,
    ⟨(some 48), .move (.tmp 8), none, []⟩,
    ⟨(some 49), .binOp .shl 26 (.const (.int .u64 1)) (.tmp 48) 3, none, [48]⟩,
    ⟨(some 50), .binOp .rem 26 (.tmp 47) (.tmp 49) 26, none, [47, 49]⟩,
    ⟨(some 11), .assign (.tmp 50), none, [50]⟩] [0, 1, 0, 4, 15, 31])
  (.seq (.reg [⟨(some 52), .load 32 (.tmp 7), none, []⟩,
    ⟨(some 53), .move (.tmp 9), none, []⟩,
    ⟨(some 54), .move (.tmp 10), none, []⟩,
    ⟨(some 55), .move (.tmp 11), none, []⟩,
    ⟨(some 56), .call ⟨.value (.func 13), #[(.tmp 52), (.tmp 53), (.tmp 54), (.tmp 55)], #[32, 34, 34, 26]⟩, none, [52, 53, 54, 55]⟩,
    ⟨(some 51), .move (.tmp 56), none, [56]⟩,
    ⟨(some 57), .extract (.tmp 51) 0, none, []⟩,
    ⟨(some 58), .extract (.tmp 51) 1, none, [51]⟩,
    ⟨(some 12), .assign (.tmp 57), none, [57]⟩,
    ⟨(some 13), .assign (.tmp 58), none, [58]⟩])
  (.seq (.seq (.reg [⟨(some 59), .move (.tmp 13), none, []⟩,
    ⟨(some 60), .binOp .neq 36 (.tmp 59) (.const (.int .i64 0)) 36, none, [59]⟩])
  (.cond (.tmp 60) (.seq (.reg [⟨(some 6), .assign (.const (.bool false)), none, []⟩])
  .ret)
  .skip))
  (.seq (.seq (.reg [⟨(some 14), .assign (.const (.int .i64 0)), none, []⟩])
  (.block 0 (.loop (.seq (.seq (.reg [⟨(some 61), .move (.tmp 14), none, []⟩,
    ⟨(some 62), .move (.tmp 12), none, []⟩,
    ⟨(some 63), .call ⟨.builtin .len, #[(.tmp 62)], #[39]⟩, none, [62]⟩,
    ⟨(some 64), .binOp .lss 3 (.tmp 61) (.tmp 63) 3, none, [61, 63]⟩])
  (.cond (.tmp 64) .skip
  (.exit 0)))
  (.seq (.block 1 (.seq (.reg [⟨(some 15), .assign (.const (.bool false)), none, []⟩])
  (.seq (.seq (.reg [⟨(some 16), .assign (.const (.int .i64 0)), none, []⟩])
  (.block 2 (.loop (.seq (.seq (.reg [⟨(some 67), .move (.tmp 16), none, []⟩,
    ⟨(some 68), .move (.tmp 8), none, []⟩,
    ⟨(some 69), .binOp .lss 3 (.tmp 67) (.tmp 68) 3, none, [67, 68]⟩])
  (.cond (.tmp 69) .skip
  (.exit 2)))
  (.seq (.block 3 (.drw [⟨(some 72), .move (.tmp 15), none, []⟩,
    ⟨(some 73), .move (.tmp 72), none, [72]⟩,
    ⟨(some 74), .load 32 (.tmp 7), (some (73, false)), []⟩,
    ⟨(some 75), .move (.tmp 16), (some (73, false)), []⟩,
    ⟨(some 76), .move (.tmp 12), (some (73, false)), []⟩,
    ⟨(some 77), .move (.tmp 14), (some (73, false)), []⟩,
    ⟨(some 78), .indexAddr 39 (.tmp 76) (.tmp 77), (some (73, false)), [76, 77]⟩,
    ⟨(some 79), .load 3 (.tmp 78), (some (73, false)), [78]⟩,
    ⟨(some 80), .call ⟨.value (.func 16), #[(.tmp 74), (.tmp 75), (.tmp 79)], #[32, 3, 3]⟩, (some (73, false)), [74, 75, 79]⟩,
    ⟨(some 81), .move (.tmp 80), (some (73, false)), [80]⟩,
    ⟨(some 82), .move (.tmp 11), (some (81, true)), []⟩,
    ⟨(some 83), .move (.tmp 16), (some (81, true)), []⟩,
    ⟨(some 84), .binOp .shr 26 (.tmp 82) (.tmp 83) 3, (some (81, true)), [82, 83]⟩,
    ⟨(some 85), .binOp .rem 26 (.tmp 84) (.const (.int .u64 2)) 26, (some (81, true)), [84]⟩,
    ⟨(some 86), .binOp .eql 26 (.tmp 85) (.const (.int .u64 0)) 26, (some (81, true)), [85]⟩,
    ⟨(some 87), .pick (.tmp 81) (.tmp 86) (.const (.bool false)), (some (73, false)), [81, 86]⟩,
    ⟨(some 88), .move (.tmp 87), (some (73, false)), [87]⟩,
    ⟨(some 89), .move (.tmp 9), (some (88, true)), []⟩,
    ⟨(some 90), .move (.tmp 16), (some (88, true)), []⟩,
    ⟨(some 91), .indexAddr 34 (.tmp 89) (.tmp 90), (some (88, true)), [89, 90]⟩,
    ⟨(some 92), .load 44 (.tmp 91), (some (88, true)), [91]⟩,
    ⟨(some 93), .move (.tmp 10), (some (88, true)), []⟩,
    ⟨(some 94), .move (.tmp 16), (some (88, true)), []⟩,
    ⟨(some 95), .indexAddr 34 (.tmp 93) (.tmp 94), (some (88, true)), [93, 94]⟩,
    ⟨(some 96), .load 44 (.tmp 95), (some (88, true)), [95]⟩,
    ⟨(some 97), .binOp .add 44 (.tmp 92) (.tmp 96) 44, (some (88, true)), [92, 96]⟩,
    ⟨(some 98), .binOp .eql 44 (.tmp 97) (.const (.int .u8 1)) 44, (some (88, true)), [97]⟩,
    ⟨(some 99), .pick (.tmp 88) (.tmp 98) (.const (.bool false)), (some (73, false)), [88, 98]⟩,
    ⟨(some 100), .pick (.tmp 73) (.const (.bool true)) (.tmp 99), none, [73, 99]⟩,
    ⟨(some 15), .assign (.tmp 100), none, [100]⟩] [0, 1, 3, 3, 3, 3, 51, 115, 255, 511, 1023, 1023, 4095, 8191, 16383, 32767, 65535, 131071, 131071, 524287, 1048575, 131071, 131071, 6422527, 14811135, 33554431, 67108863, 134217727, 268435455, 536870911]))
  (.reg [⟨(some 70), .move (.tmp 16), none, []⟩,
    ⟨(some 71), .binOp .add 3 (.tmp 70) (.const (.int .i64 1)) 3, none, [70]⟩,
    ⟨(some 16), .assign (.tmp 71), none, [71]⟩]))))))
  (.seq (.reg [⟨(some 101), .move (.tmp 15), none, []⟩,
    ⟨(some 102), .unOp .not 4 (.tmp 101), none, [101]⟩])
  (.cond (.tmp 102) (.seq (.reg [⟨(some 6), .assign (.const (.bool false)), none, []⟩])
  .ret)
  .skip)))))
  (.reg [⟨(some 65), .move (.tmp 14), none, []⟩,
    ⟨(some 66), .binOp .add 3 (.tmp 65) (.const (.int .i64 1)) 3, none, [65]⟩,
    ⟨(some 14), .assign (.tmp 66), none, [66]⟩]))))))
  (.seq (.seq (.reg [⟨(some 103), .move (.tmp 8), none, []⟩,
    ⟨(some 104), .binOp .eql 3 (.tmp 103) (.const (.int .i64 0)) 3, none, [103]⟩])
  (.cond (.tmp 104) (.seq (.reg [⟨(some 105), .call ⟨.value (.func 9), #[], #[]⟩, none, []⟩,
    ⟨(some 6), .assign (.tmp 105), none, [105]⟩])
  .ret)
  .skip))
  (.seq (.reg [⟨(some 106), .move (.tmp 2), none, [2]⟩,
    ⟨(some 107), .convert 5 3 (.tmp 106), none, [106]⟩,
    ⟨(some 108), .move (.tmp 8), none, []⟩,
    ⟨(some 109), .binOp .rem 3 (.tmp 107) (.tmp 108) 3, none, [107, 108]⟩,
    ⟨(some 17), .assign (.tmp 109), none, [109]⟩])
  (.seq (.reg [⟨(some 110), .buildSlice 34 0 #[], none, []⟩,
    ⟨(some 111), .move (.tmp 9), none, []⟩,
    ⟨(some 112), .call ⟨.builtin .append, #[(.tmp 110), (.tmp 111)], #[34, 34]⟩, none, [110, 111]⟩,
    ⟨(some 18), .assign (.tmp 112), none, [112]⟩])
  (.seq (.reg [⟨(some 113), .move (.tmp 18), none, []⟩,
    ⟨(some 114), .move (.tmp 17), none, []⟩,
    ⟨(some 115), .indexAddr 34 (.tmp 113) (.tmp 114), none, [113, 114]⟩,
    ⟨none, .store 44 (.tmp 115) (.const (.int .u8 0)), none, [115]⟩])
  (.seq (.reg [⟨(some 116), .buildSlice 34 0 #[], none, []⟩,
    ⟨(some 117), .move (.tmp 18), none, []⟩,
    ⟨(some 118), .call ⟨.builtin .append, #[(.tmp 116), (.tmp 117)], #[34, 34]⟩, none, [116, 117]⟩,
    ⟨(some 19), .assign (.tmp 118), none, [118]⟩])
  (.seq (.reg [⟨(some 119), .move (.tmp 19), none, []⟩,
    ⟨(some 120), .move (.tmp 17), none, []⟩,
    ⟨(some 121), .indexAddr 34 (.tmp 119) (.tmp 120), none, [119, 120]⟩,
    ⟨none, .store 44 (.tmp 121) (.const (.int .u8 1)), none, [121]⟩])
  (.seq (.reg [⟨(some 20), .assign (.const (.int .u64 0)), none, []⟩])
  (.seq (.seq (.reg [⟨(some 21), .assign (.const (.int .i64 0)), none, []⟩])
  (.block 4 (.loop (.seq (.seq (.reg [⟨(some 122), .move (.tmp 21), none, []⟩,
    ⟨(some 123), .move (.tmp 8), none, []⟩,
    ⟨(some 124), .binOp .lss 3 (.tmp 122) (.tmp 123) 3, none, [122, 123]⟩])
  (.cond (.tmp 124) .skip
  (.exit 4)))
  (.seq (.block 5 (.seq (.reg [⟨(some 127), .move (.tmp 18), none, []⟩,
    ⟨(some 128), .move (.tmp 21), none, []⟩,
    ⟨(some 129), .indexAddr 34 (.tmp 127) (.tmp 128), none, [127, 128]⟩,
    ⟨(some 130), .load 44 (.tmp 129), none, [129]⟩,
    ⟨(some 131), .binOp .eql 44 (.tmp 130) (.const (.int .u8 2)) 44, none, [130]⟩,
    ⟨(some 132), .move (.tmp 131), none, [131]⟩,
    ⟨(some 133), .move (.tmp 11), (some (132, true)), []⟩,
    ⟨(some 134), .move (.tmp 21), (some (132, true)), []⟩,
    ⟨(some 135), .binOp .shr 26 (.tmp 133) (.tmp 134) 3, (some (132, true)), [133, 134]⟩,
    ⟨(some 136), .binOp .rem 26 (.tmp 135) (.const (.int .u64 2)) 26, (some (132, true)), [135]⟩,
    ⟨(some 137), .binOp .eql 26 (.tmp 136) (.const (.int .u64 0)) 26, (some (132, true)), [136]⟩,
    ⟨(some 138), .pick (.tmp 132) (.tmp 137) (.const (.bool false)), none, [132, 137]⟩])
  (.cond (.tmp 138) (.reg [⟨(some 139), .move (.tmp 20), none, []⟩,
    ⟨(some 140), .move (.tmp 21), none, []⟩,
    ⟨(some 141), .binOp .shl 26 (.const (.int .u64 1)) (.tmp 140) 3, none, [140]⟩,
    ⟨(some 142), .binOp .or 26 (.tmp 139) (.tmp 141) 26, none, [139, 141]⟩,
    ⟨(some 20), .assign (.tmp 142), none, [142]⟩])
  .skip)))
  (.reg [⟨(some 125), .move (.tmp 21), none, []⟩,
    ⟨(some 126), .binOp .add 3 (.tmp 125) (.const (.int .i64 1)) 3, none, [125]⟩,
    ⟨(some 21), .assign (.tmp 126), none, [126]⟩]))))))
  (.seq (.reg [⟨(some 144), .load 32 (.tmp 7), none, []⟩,
    ⟨(some 145), .move (.tmp 18), none, []⟩,
    ⟨(some 146), .move (.tmp 19), none, []⟩,
    ⟨(some 147), .move (.tmp 11), none, []⟩,
    ⟨(some 148), .call ⟨.value (.func 13), #[(.tmp 144), (.tmp 145), (.tmp 146), (.tmp 147)], #[32, 34, 34, 26]⟩, none, [144, 145, 146, 147]⟩,
    ⟨(some 143), .move (.tmp 148), none, [148]⟩,
    ⟨(some 149), .extract (.tmp 143) 0, none, []⟩,
    ⟨(some 150), .extract (.tmp 143) 1, none, [143]⟩,
    ⟨(some 22), .assign (.tmp 149), none, [149]⟩,
    ⟨(some 23), .assign (.tmp 150), none, [150]⟩])
  (.seq (.reg [⟨(some 152), .load 32 (.tmp 7), none, []⟩,
    ⟨(some 153), .move (.tmp 17), none, []⟩,
    ⟨(some 154), .move (.tmp 20), none, []⟩,
    ⟨(some 155), .call ⟨.value (.func 17), #[(.tmp 152), (.tmp 153), (.tmp 154)], #[32, 3, 26]⟩, none, [152, 153, 154]⟩,
    ⟨(some 151), .move (.tmp 155), none, [155]⟩,
    ⟨(some 156), .extract (.tmp 151) 0, none, []⟩,
    ⟨(some 157), .extract (.tmp 151) 1, none, [151]⟩,
    ⟨(some 24), .assign (.tmp 156), none, [156]⟩,
    ⟨(some 25), .assign (.tmp 157), none, [157]⟩])
  (.seq (.seq (.reg [⟨(some 158), .move (.tmp 23), none, []⟩,
    ⟨(some 159), .binOp .neq 36 (.tmp 158) (.const (.int .i64 0)) 36, none, [158]⟩,
    ⟨(some 160), .move (.tmp 159), none, [159]⟩,
    ⟨(some 161), .move (.tmp 25), (some (160, false)), []⟩,
    ⟨(some 162), .binOp .neq 36 (.tmp 161) (.const (.int .i64 0)) 36, (some (160, false)), [161]⟩,
    ⟨(some 163), .pick (.tmp 160) (.const (.bool true)) (.tmp 162), none, [160, 162]⟩])
  (.cond (.tmp 163) (.seq (.reg [⟨(some 6), .assign (.const (.bool false)), none, []⟩])
  .ret)
  .skip))
  (.seq (.seq (.reg [⟨(some 164), .move (.tmp 11), none, []⟩,
    ⟨(some 165), .move (.tmp 17), none, []⟩,
    ⟨(some 166), .binOp .shr 26 (.tmp 164) (.tmp 165) 3, none, [164, 165]⟩,
    ⟨(some 167), .binOp .rem 26 (.tmp 166) (.const (.int .u64 2)) 26, none, [166]⟩,
    ⟨(some 168), .binOp .eql 26 (.tmp 167) (.const (.int .u64 1)) 26, none, [167]⟩])
  (.cond (.tmp 168) (.seq (.reg [⟨(some 169), .move (.tmp 22), none, []⟩,
    ⟨(some 170), .call ⟨.builtin .len, #[(.tmp 169)], #[39]⟩, none, [169]⟩,
    ⟨(some 171), .binOp .eql 3 (.tmp 170) (.const (.int .i64 0)) 3, none, [170]⟩,
    ⟨(some 172), .move (.tmp 171), none, [171]⟩,
    ⟨(some 173), .call ⟨.value (.func 9), #[], #[]⟩, (some (172, true)), []⟩,
    ⟨(some 174), .pick (.tmp 172) (.tmp 173) (.const (.bool false)), none, [172, 173]⟩,
    ⟨(some 6), .assign (.tmp 174), none, [174]⟩])
  .ret)
  .skip))
  (.seq (.drw [⟨(some 176), .load 32 (.tmp 7), none, []⟩,
    ⟨(some 177), .move (.tmp 17), none, []⟩,
    ⟨(some 178), .move (.tmp 20), none, []⟩,
    ⟨(some 179), .move (.tmp 17), none, []⟩,
    ⟨(some 180), .binOp .shl 26 (.const (.int .u64 1)) (.tmp 179) 3, none, [179]⟩,
    ⟨(some 181), .binOp .or 26 (.tmp 178) (.tmp 180) 26, none, [178, 180]⟩,
    ⟨(some 182), .call ⟨.value (.func 17), #[(.tmp 176), (.tmp 177), (.tmp 181)], #[32, 3, 26]⟩, none, [176, 177, 181]⟩,
    ⟨(some 175), .move (.tmp 182), none, [182]⟩,
    ⟨(some 183), .extract (.tmp 175) 0, none, []⟩,
    ⟨(some 184), .extract (.tmp 175) 1, none, [175]⟩,
    ⟨(some 26), .assign (.tmp 183), none, [183]⟩,
    ⟨(some 27), .assign (.tmp 184), none, [184]⟩] [0, 0, 0, 0, 8, 28, 63, 127, 255, 255, 511, 2047])
  (.seq (.reg [⟨(some 185), .move (.tmp 22), none, []⟩,
    ⟨(some 186), .call ⟨.builtin .len, #[(.tmp 185)], #[39]⟩, none, [185]⟩,
    ⟨(some 187), .binOp .gtr 3 (.tmp 186) (.const (.int .i64 0)) 3, none, [186]⟩,
    ⟨(some 188), .move (.tmp 24), none, []⟩,
    ⟨(some 189), .binOp .eql 4 (.tmp 187) (.tmp 188) 4, none, [187, 188]⟩,
    ⟨(some 190), .move (.tmp 189), none, [189]⟩,
    ⟨(some 191), .move (.tmp 27), (some (190, true)), []⟩,
    ⟨(some 192), .binOp .eql 36 (.tmp 191) (.const (.int .i64 0)) 36, (some (190, true)), [191]⟩,
    ⟨(some 193), .pick (.tmp 190) (.tmp 192) (.const (.bool false)), none, [190, 192]⟩,
    ⟨(some 194), .move (.tmp 193), none, [193]⟩,
    ⟨(some 195), .move (.tmp 26), (some (194, true)), []⟩,
    ⟨(some 196), .unOp .not 4 (.tmp 195), (some (194, true)), [195]⟩,
    ⟨(some 197), .pick (.tmp 194) (.tmp 196) (.const (.bool false)), none, [194, 196]⟩,
    ⟨(some 198), .move (.tmp 197), none, [197]⟩,
    ⟨(some 199), .call ⟨.value (.func 9), #[], #[]⟩, (some (198, true)), []⟩,
    ⟨(some 200), .pick (.tmp 198) (.tmp 199) (.const (.bool false)), none, [198, 199]⟩,
    ⟨(some 6), .assign (.tmp 200), none, [200]⟩])
  .ret)))))))))))))))))))))))
theorem s4 : Stripped Try.prog 4 201 [.tmp 6] C4 := ⟨Try.f4, _, [[[0], [1], []], [[], [28], [29], [30]], [[], [32]], [[], [33], [], [34]], [[], [35], [36], [37]], [[], [38], [], [39, 40], [], [42], [], [43, 44], [41], [45]], [[], [46], [], [48], [47, 49], [50]], [[], [], [], [], [52, 53, 54, 55], [56], [], [51], [57], [58]], [[], [59]], [[]], [[]], [[], [], [62], [61, 63]], [[]], [[]], [[], [], [67, 68]], [[], [72], [], [], [], [], [76, 77], [78], [74, 75, 79], [80], [], [], [82, 83], [84], [85], [81, 86], [87], [], [], [89, 90], [91], [], [], [93, 94], [95], [92, 96], [97], [88, 98], [73, 99], [100]], [[], [70], [71]], [[], [101]], [[]], [[], [65], [66]], [[], [103]], [[], [105]], [[2], [106], [], [107, 108], [109]], [[], [], [110, 111], [112]], [[], [], [113, 114], [115]], [[], [], [116, 117], [118]], [[], [], [119, 120], [121]], [[]], [[]], [[], [], [122, 123]], [[], [], [127, 128], [129], [130], [131], [], [], [133, 134], [135], [136], [132, 137]], [[], [], [140], [139, 141], [142]], [[], [125], [126]], [[], [], [], [], [144, 145, 146, 147], [148], [], [143], [149], [150]], [[], [], [], [152, 153, 154], [155], [], [151], [156], [157]], [[], [158], [159], [], [161], [160, 162]], [[]], [[], [], [164, 165], [166], [167]], [[], [169], [170], [171], [], [172, 173], [174]], [[], [], [], [], [179], [178, 180], [176, 177, 181], [182], [], [175], [183], [184]], [[], [185], [186], [], [187, 188], [189], [], [191], [190, 192], [193], [], [195], [194, 196], [197], [], [198, 199], [200]]], [], Try.func4, rfl, by kernel_rfl, rfl, rfl, by kernel_rfl⟩
/- probecard/probecardlaw33.CompactorsLocates -/
def C6 : CC := (.seq (.reg [⟨(some 3), .box 24 (.tmp 0), none, [0]⟩,
    ⟨(some 6), .assign (.const (.bool false)), none, []⟩])
  (.seq (.seq (.reg [⟨(some 24), .fieldAddr 24 (.tmp 3) 1, none, []⟩,
    ⟨(some 25), .load 22 (.tmp 24), none, [24]⟩,
    ⟨(some 26), .call ⟨.builtin .len, #[(.tmp 25)], #[22]⟩, none, [25]⟩,
    ⟨(some 27), .binOp .gtr 3 (.tmp 26) (.const (.int .i64 12)) 3, none, [26]⟩])
  (.cond (.tmp 27) (.seq (.reg [⟨(some 28), .call ⟨.value (.func 9), #[], #[]⟩, none, []⟩,
    ⟨(some 6), .assign (.tmp 28), none, [28]⟩])
  .ret)
  .skip))
  (.seq (.reg [⟨(some 29), .load 24 (.tmp 3), none, []⟩,
    ⟨(some 30), .call ⟨.value (.func 10), #[(.tmp 29)], #[24]⟩, none, [29]⟩,
    ⟨(some 7), .alloc 32, none, []⟩,
    ⟨none, .store 32 (.tmp 7) (.tmp 30), none, [30]⟩])
  (.seq (.reg [⟨(some 31), .fieldAddr 32 (.tmp 7) 1, none, []⟩,
    ⟨(some 32), .load 30 (.tmp 31), none, [31]⟩,
    ⟨(some 33), .call ⟨.builtin .len, #[(.tmp 32)], #[30]⟩, none, [32]⟩,
    ⟨(some 8), .assign (.tmp 33), none, [33]⟩])
  (.seq (.seq (.reg [⟨(some 34), .move (.tmp 8), none, []⟩,
    ⟨(some 35), .binOp .gtr 3 (.tmp 34) (.const (.int .i64 0)) 3, none, [34]⟩,
    ⟨(some 36), .move (.tmp 35), none, [35]⟩,
    ⟨(some 37), .move (.tmp 2), (some (36, true)), []⟩,
    ⟨(some 38), .binOp .rem 5 (.tmp 37) (.const (.int .u8 2)) 5, (some (36, true)), [37]⟩,
    ⟨(some 39), .binOp .eql 5 (.tmp 38) (.const (.int .u8 0)) 5, (some (36, true)), [38]⟩,
    ⟨(some 40), .pick (.tmp 36) (.tmp 39) (.const (.bool false)), none, [36, 39]⟩])
  (.cond (.tmp 40) (.drw [⟨(some 41), .fieldAddr 32 (.tmp 7) 1, none, []⟩,
    ⟨(some 42), .load 30 (.tmp 41), none, [41]⟩,
    ⟨(some 43), .move (.tmp 2), none, []⟩,
    ⟨(some 44), .convert 5 3 (.tmp 43), none, [43]⟩,
    ⟨(some 45), .move (.tmp 8), none, []⟩,
    ⟨(some 46), .binOp .rem 3 (.tmp 44) (.tmp 45) 3, none, [44, 45]⟩,
    ⟨(some 47), .indexAddr 30 (.tmp 42) (.tmp 46), none, [42, 46]⟩,
    ⟨(some 48), .load 26 (.tmp 47), none, [47]⟩,
    ⟨(some 49), .convert 26 51 (.tmp 48), none, [48]⟩,
    ⟨(some 1), .assign (.tmp 49), none, [49]⟩] [0, 1, 0, 4, 0, 28, 63, 127, 255, 511])
  .skip))
  (.seq (.reg [⟨(some 9), .assign (.const (.slice none 0 0)), none, []⟩])
  (.seq (.seq (.reg [⟨(some 10), .assign (.const (.int .i64 0)), none, []⟩])
  (.block 0 (.loop (.seq (.seq (.reg [⟨(some 50), .move (.tmp 10), none, []⟩,
    ⟨(some 51), .fieldAddr 32 (.tmp 7) 0, none, []⟩,
    ⟨(some 52), .load 3 (.tmp 51), none, [51]⟩,
    ⟨(some 53), .binOp .lss 3 (.tmp 50) (.tmp 52) 3, none, [50, 52]⟩])
  (.cond (.tmp 53) .skip
  (.exit 0)))
  (.seq (.block 1 (.seq (.reg [⟨(some 56), .move (.tmp 1), none, []⟩,
    ⟨(some 57), .move (.tmp 10), none, []⟩,
    ⟨(some 58), .binOp .shr 51 (.tmp 56) (.tmp 57) 3, none, [56, 57]⟩,
    ⟨(some 59), .binOp .rem 51 (.tmp 58) (.const (.int .u32 2)) 51, none, [58]⟩,
    ⟨(some 60), .binOp .eql 51 (.tmp 59) (.const (.int .u32 1)) 51, none, [59]⟩])
  (.cond (.tmp 60) (.reg [⟨(some 61), .move (.tmp 9), none, []⟩,
    ⟨(some 62), .move (.tmp 10), none, []⟩,
    ⟨(some 63), .buildSlice 39 1 #[(0, (.tmp 62))], none, [62]⟩,
    ⟨(some 64), .call ⟨.builtin .append, #[(.tmp 61), (.tmp 63)], #[39, 39]⟩, none, [61, 63]⟩,
    ⟨(some 9), .assign (.tmp 64), none, [64]⟩])
  .skip)))
  (.reg [⟨(some 54), .move (.tmp 10), none, []⟩,
    ⟨(some 55), .binOp .add 3 (.tmp 54) (.const (.int .i64 1)) 3, none, [54]⟩,
    ⟨(some 10), .assign (.tmp 55), none, [55]⟩]))))))
  (.seq (.reg [⟨(some 11), .assign (.const (.int .i64 0)), none, []⟩,
    ⟨(some 12), .assign (.const (.int .i64 0)), none, []⟩])
  (.seq (.seq (.reg [⟨(some 13), .assign (.const (.int .i64 0)), none, []⟩])
  (.block 2 (.loop (.seq (.seq (.reg [⟨(some 65), .move (.tmp 13), none, []⟩,
    ⟨(some 66), .move (.tmp 8), none, []⟩,
    ⟨(some 67), .binOp .lss 3 (.tmp 65) (.tmp 66) 3, none, [65, 66]⟩])
  (.cond (.tmp 67) .skip
  (.exit 2)))
  (.seq (.block 3 (.seq (.reg [⟨(some 14), .assign (.const (.bool true)), none, []⟩])
  (.seq (.seq (.reg [⟨(some 15), .assign (.const (.int .i64 0)), none, []⟩])
  (.block 4 (.loop (.seq (.seq (.reg [⟨(some 70), .move (.tmp 15), none, []⟩,
    ⟨(some 71), .fieldAddr 32 (.tmp 7) 0, none, []⟩,
    ⟨(some 72), .load 3 (.tmp 71), none, [71]⟩,
    ⟨(some 73), .binOp .lss 3 (.tmp 70) (.tmp 72) 3, none, [70, 72]⟩])
  (.cond (.tmp 73) .skip
  (.exit 4)))
  (.seq (.block 5 (.drw [⟨(some 76), .move (.tmp 14), none, []⟩,
    ⟨(some 77), .move (.tmp 76), none, [76]⟩,
    ⟨(some 78), .load 32 (.tmp 7), (some (77, true)), []⟩,
    ⟨(some 79), .move (.tmp 13), (some (77, true)), []⟩,
    ⟨(some 80), .move (.tmp 15), (some (77, true)), []⟩,
    ⟨(some 81), .call ⟨.value (.func 16), #[(.tmp 78), (.tmp 79), (.tmp 80)], #[32, 3, 3]⟩, (some (77, true)), [78, 79, 80]⟩,
    ⟨(some 82), .move (.tmp 1), (some (77, true)), []⟩,
    ⟨(some 83), .move (.tmp 15), (some (77, true)), []⟩,
    ⟨(some 84), .binOp .shr 51 (.tmp 82) (.tmp 83) 3, (some (77, true)), [82, 83]⟩,
    ⟨(some 85), .binOp .rem 51 (.tmp 84) (.const (.int .u32 2)) 51, (some (77, true)), [84]⟩,
    ⟨(some 86), .binOp .eql 51 (.tmp 85) (.const (.int .u32 1)) 51, (some (77, true)), [85]⟩,
    ⟨(some 87), .binOp .eql 4 (.tmp 81) (.tmp 86) 4, (some (77, true)), [81, 86]⟩,
    ⟨(some 88), .pick (.tmp 77) (.tmp 87) (.const (.bool false)), none, [77, 87]⟩,
    ⟨(some 14), .assign (.tmp 88), none, [88]⟩] [0, 1, 3, 3, 3, 31, 3, 3, 195, 451, 963, 2047, 4095, 8191]))
  (.reg [⟨(some 74), .move (.tmp 15), none, []⟩,
    ⟨(some 75), .binOp .add 3 (.tmp 74) (.const (.int .i64 1)) 3, none, [74]⟩,
    ⟨(some 15), .assign (.tmp 75), none, [75]⟩]))))))
  (.seq (.reg [⟨(some 89), .move (.tmp 14), none, []⟩])
  (.cond (.tmp 89) (.seq (.reg [⟨(some 90), .move (.tmp 13), none, []⟩,
    ⟨(some 11), .assign (.tmp 90), none, [90]⟩])
  (.reg [⟨(some 91), .move (.tmp 12), none, []⟩,
    ⟨(some 92), .binOp .add 3 (.tmp 91) (.const (.int .i64 1)) 3, none, [91]⟩,
    ⟨(some 12), .assign (.tmp 92), none, [92]⟩]))
  .skip)))))
  (.reg [⟨(some 68), .move (.tmp 13), none, []⟩,
    ⟨(some 69), .binOp .add 3 (.tmp 68) (.const (.int .i64 1)) 3, none, [68]⟩,
    ⟨(some 13), .assign (.tmp 69), none, [69]⟩]))))))
  (.seq (.reg [⟨(some 94), .load 32 (.tmp 7), none, []⟩,
    ⟨(some 95), .move (.tmp 9), none, []⟩,
    ⟨(some 96), .call ⟨.value (.func 18), #[(.tmp 94), (.tmp 95)], #[32, 39]⟩, none, [94, 95]⟩,
    ⟨(some 93), .move (.tmp 96), none, [96]⟩,
    ⟨(some 97), .extract (.tmp 93) 0, none, []⟩,
    ⟨(some 98), .extract (.tmp 93) 1, none, [93]⟩,
    ⟨(some 16), .assign (.tmp 97), none, [97]⟩,
    ⟨(some 17), .assign (.tmp 98), none, [98]⟩])
  (.seq (.seq (.reg [⟨(some 99), .move (.tmp 12), none, []⟩,
    ⟨(some 100), .binOp .neq 3 (.tmp 99) (.const (.int .i64 1)) 3, none, [99]⟩])
  (.cond (.tmp 100) (.seq (.reg [⟨(some 101), .move (.tmp 16), none, []⟩,
    ⟨(some 102), .binOp .eql 3 (.tmp 101) (.const (.int .i64 0)) 3, none, [101]⟩,
    ⟨(some 103), .move (.tmp 102), none, [102]⟩,
    ⟨(some 104), .move (.tmp 17), (some (103, true)), []⟩,
    ⟨(some 105), .binOp .eql 36 (.tmp 104) (.const (.int .i64 9)) 36, (some (103, true)), [104]⟩,
    ⟨(some 106), .pick (.tmp 103) (.tmp 105) (.const (.bool false)), none, [103, 105]⟩,
    ⟨(some 107), .move (.tmp 106), none, [106]⟩,
    ⟨(some 108), .call ⟨.value (.func 9), #[], #[]⟩, (some (107, true)), []⟩,
    ⟨(some 109), .pick (.tmp 107) (.tmp 108) (.const (.bool false)), none, [107, 108]⟩,
    ⟨(some 6), .assign (.tmp 109), none, [109]⟩])
  .ret)
  .skip))
  (.seq (.reg [⟨(some 110), .move (.tmp 8), none, []⟩,
    ⟨(some 111), .makeSlice 34 (.tmp 110) (.tmp 110), none, [110]⟩,
    ⟨(some 18), .assign (.tmp 111), none, [111]⟩])
  (.seq (.reg [⟨(some 112), .move (.tmp 8), none, []⟩,
    ⟨(some 113), .makeSlice 34 (.tmp 112) (.tmp 112), none, [112]⟩,
    ⟨(some 19), .assign (.tmp 113), none, [113]⟩])
  (.seq (.reg [⟨(some 114), .move (.tmp 19), none, []⟩,
    ⟨(some 115), .move (.tmp 11), none, []⟩,
    ⟨(some 116), .indexAddr 34 (.tmp 114) (.tmp 115), none, [114, 115]⟩,
    ⟨none, .store 44 (.tmp 116) (.const (.int .u8 1)), none, [116]⟩])
  (.seq (.reg [⟨(some 118), .load 32 (.tmp 7), none, []⟩,
    ⟨(some 119), .move (.tmp 18), none, []⟩,
    ⟨(some 120), .move (.tmp 19), none, []⟩,
    ⟨(some 121), .call ⟨.value (.func 13), #[(.tmp 118), (.tmp 119), (.tmp 120), (.const (.int .u64 0))], #[32, 34, 34, 26]⟩, none, [118, 119, 120]⟩,
    ⟨(some 117), .move (.tmp 121), none, [121]⟩,
    ⟨(some 122), .extract (.tmp 117) 0, none, []⟩,
    ⟨(some 123), .extract (.tmp 117) 1, none, [117]⟩,
    ⟨(some 20), .assign (.tmp 122), none, [122]⟩,
    ⟨(some 21), .assign (.tmp 123), none, [123]⟩])
  (.seq (.reg [⟨(some 125), .load 32 (.tmp 7), none, []⟩,
    ⟨(some 126), .move (.tmp 20), none, []⟩,
    ⟨(some 127), .call ⟨.value (.func 18), #[(.tmp 125), (.tmp 126)], #[32, 39]⟩, none, [125, 126]⟩,
    ⟨(some 124), .move (.tmp 127), none, [127]⟩,
    ⟨(some 128), .extract (.tmp 124) 0, none, []⟩,
    ⟨(some 129), .extract (.tmp 124) 1, none, [124]⟩,
    ⟨(some 22), .assign (.tmp 128), none, [128]⟩,
    ⟨(some 23), .assign (.tmp 129), none, [129]⟩])
  (.seq (.reg [⟨(some 130), .move (.tmp 16), none, []⟩,
    ⟨(some 131), .move (.tmp 11), none, []⟩,
    ⟨(some 132), .binOp .eql 3 (.tmp 130) (.tmp 131) 3, none, [130, 131]⟩,
    ⟨(some 133), .move (.tmp 132), none, [132]⟩,
    ⟨(some 134), .move (.tmp 17), (some (133, true)), []⟩,
    ⟨(some 135), .binOp .eql 36 (.tmp 134) (.const (.int .i64 0)) 36, (some (133, true)), [134]⟩,
    ⟨(some 136), .pick (.tmp 133) (.tmp 135) (.const (.bool false)), none, [133, 135]⟩,
    ⟨(some 137), .move (.tmp 136), none, [136]⟩,
    ⟨(some 138), .move (.tmp 21), (some (137, true)), []⟩,
    ⟨(some 139), .binOp .eql 36 (.tmp 138) (.const (.int .i64 0)) 36, (some (137, true)), [138]⟩,
    ⟨(some 140), .pick (.tmp 137) (.tmp 139) (.const (.bool false)), none, [137, 139]⟩,
    ⟨(some 141), .move (.tmp 140), none, [140]⟩,
    ⟨(some 142), .move (.tmp 23), (some (141, true)), []⟩,
    ⟨(some 143), .binOp .eql 36 (.tmp 142) (.const (.int .i64 0)) 36, (some (141, true)), [142]⟩,
    ⟨(some 144), .pick (.tmp 141) (.tmp 143) (.const (.bool false)), none, [141, 143]⟩,
    ⟨(some 145), .move (.tmp 144), none, [144]⟩,
    ⟨(some 146), .move (.tmp 22), (some (145, true)), []⟩,
    ⟨(some 147), .move (.tmp 11), (some (145, true)), []⟩,
    ⟨(some 148), .binOp .eql 3 (.tmp 146) (.tmp 147) 3, (some (145, true)), [146, 147]⟩,
    ⟨(some 149), .pick (.tmp 145) (.tmp 148) (.const (.bool false)), none, [145, 148]⟩,
    ⟨(some 150), .move (.tmp 149), none, [149]⟩,
    ⟨(some 151), .call ⟨.value (.func 9), #[], #[]⟩, (some (150, true)), []⟩,
    ⟨(some 152), .pick (.tmp 150) (.tmp 151) (.const (.bool false)), none, [150, 151]⟩,
    ⟨(some 6), .assign (.tmp 152), none, [152]⟩])
  .ret)))))))))))))))))
theorem s6 : Stripped Try.prog 6 153 [.tmp 6] C6 := ⟨Try.f6, _, [[[0], []], [[], [24], [25], [26]], [[], [28]], [[], [29], [], [30]], [[], [31], [32], [33]], [[], [34], [35], [], [37], [38], [36, 39]], [[], [41], [], [43], [], [44, 45], [42, 46], [47], [48], [49]], [[]], [[]], [[], [], [51], [50, 52]], [[], [], [56, 57], [58], [59]], [[], [], [62], [61, 63], [64]], [[], [54], [55]], [[], []], [[]], [[], [], [65, 66]], [[]], [[]], [[], [], [71], [70, 72]], [[], [76], [], [], [], [78, 79, 80], [], [], [82, 83], [84], [85], [81, 86], [77, 87], [88]], [[], [74], [75]], [[]], [[], [90]], [[], [91], [92]], [[], [68], [69]], [[], [], [94, 95], [96], [], [93], [97], [98]], [[], [99]], [[], [101], [102], [], [104], [103, 105], [106], [], [107, 108], [109]], [[], [110], [111]], [[], [112], [113]], [[], [], [114, 115], [116]], [[], [], [], [118, 119, 120], [121], [], [117], [122], [123]], [[], [], [125, 126], [127], [], [124], [128], [129]], [[], [], [130, 131], [132], [], [134], [133, 135], [136], [], [138], [137, 139], [140], [], [142], [141, 143], [144], [], [], [146, 147], [145, 148], [149], [], [150, 151], [152]]], [], Try.func6, rfl, by kernel_rfl, rfl, rfl, by kernel_rfl⟩
/- probecard/probecardlaw33.CompactorsSigns -/
def C7 : CC := (.seq (.reg [⟨(some 3), .box 56 (.tmp 0), none, [0]⟩,
    ⟨(some 4), .box 57 (.tmp 1), none, [1]⟩,
    ⟨(some 6), .assign (.const (.bool false)), none, []⟩])
  (.seq (.seq (.reg [⟨(some 27), .indexAddr 57 (.tmp 4) (.const (.int .i64 0)), none, []⟩,
    ⟨(some 28), .load 30 (.tmp 27), none, [27]⟩,
    ⟨(some 29), .call ⟨.builtin .len, #[(.tmp 28)], #[30]⟩, none, [28]⟩,
    ⟨(some 30), .binOp .gtr 3 (.tmp 29) (.const (.int .i64 30)) 3, none, [29]⟩,
    ⟨(some 31), .move (.tmp 30), none, [30]⟩,
    ⟨(some 32), .indexAddr 57 (.tmp 4) (.const (.int .i64 1)), (some (31, false)), []⟩,
    ⟨(some 33), .load 30 (.tmp 32), (some (31, false)), [32]⟩,
    ⟨(some 34), .call ⟨.builtin .len, #[(.tmp 33)], #[30]⟩, (some (31, false)), [33]⟩,
    ⟨(some 35), .binOp .gtr 3 (.tmp 34) (.const (.int .i64 30)) 3, (some (31, false)), [34]⟩,
    ⟨(some 36), .pick (.tmp 31) (.const (.bool true)) (.tmp 35), none, [31, 35]⟩])
  (.cond (.tmp 36) (.seq (.reg [⟨(some 37), .call ⟨.value (.func 9), #[], #[]⟩, none, []⟩,
    ⟨(some 6), .assign (.tmp 37), none, [37]⟩])
  .ret)
  .skip))
  (.seq (.reg [⟨(some 38), .load 56 (.tmp 3), none, []⟩,
    ⟨(some 39), .call ⟨.value (.func 19), #[(.tmp 38)], #[56]⟩, none, [38]⟩,
    ⟨(some 7), .alloc 59, none, []⟩,
    ⟨none, .store 59 (.tmp 7) (.tmp 39), none, [39]⟩])
  (.seq (.reg [⟨(some 40), .indexAddr 57 (.tmp 4) (.const (.int .i64 0)), none, []⟩,
    ⟨(some 41), .load 30 (.tmp 40), none, [40]⟩,
    ⟨(some 42), .call ⟨.builtin .len, #[(.tmp 41)], #[30]⟩, none, [41]⟩,
    ⟨(some 43), .indexAddr 57 (.tmp 4) (.const (.int .i64 1)), none, []⟩,
    ⟨(some 44), .load 30 (.tmp 43), none, [43]⟩,
    ⟨(some 45), .call ⟨.builtin .len, #[(.tmp 44)], #[30]⟩, none, [44]⟩,
    ⟨(some 46), .call ⟨.builtin .min, #[(.tmp 42), (.tmp 45)], #[3, 3]⟩, none, [42, 45]⟩,
    ⟨(some 8), .assign (.tmp 46), none, [46]⟩])
  (.seq (.reg [⟨(some 9), .assign (.const (.slice none 0 0)), none, []⟩,
    ⟨(some 10), .assign (.const (.slice none 0 0)), none, []⟩,
    ⟨(some 11), .assign (.const (.slice none 0 0)), none, []⟩,
    ⟨(some 12), .assign (.const (.slice none 0 0)), none, []⟩])
  (.seq (.reg [⟨(some 13), .assign (.const (.int .u64 0)), none, []⟩])
  (.seq (.seq (.reg [⟨(some 14), .assign (.const (.int .i64 0)), none, []⟩])
  (.block 0 (.loop (.seq (.seq (.reg [⟨(some 47), .move (.tmp 14), none, []⟩,
    ⟨(some 48), .move (.tmp 8), none, []⟩,
    ⟨(some 49), .binOp .lss 3 (.tmp 47) (.tmp 48) 3, none, [47, 48]⟩])
  (.cond (.tmp 49) .skip
  (.exit 0)))
  (.seq (.block 1 (.seq (.drw [⟨(some 52), .indexAddr 57 (.tmp 4) (.const (.int .i64 0)), none, []⟩,
    ⟨(some 53), .load 30 (.tmp 52), none, [52]⟩,
    ⟨(some 54), .move (.tmp 14), none, []⟩,
    ⟨(some 55), .indexAddr 30 (.tmp 53) (.tmp 54), none, [53, 54]⟩,
    ⟨(some 56), .load 26 (.tmp 55), none, [55]⟩,
    ⟨(some 57), .fieldAddr 59 (.tmp 7) 0, none, []⟩,
    ⟨(some 58), .load 3 (.tmp 57), none, [57]⟩,
    ⟨(some 59), .binOp .shl 26 (.const (.int .u64 1)) (.tmp 58) 3, none, [58]⟩,
    ⟨(some 60), .binOp .rem 26 (.tmp 56) (.tmp 59) 26, none, [56, 59]⟩,
    ⟨(some 61), .indexAddr 57 (.tmp 4) (.const (.int .i64 1)), none, []⟩,
    ⟨(some 62), .load 30 (.tmp 61), none, [61]⟩,
    ⟨(some 63), .move (.tmp 14), none, []⟩,
    ⟨(some 64), .indexAddr 30 (.tmp 62) (.tmp 63), none, [62, 63]⟩,
    ⟨(some 65), .load 26 (.tmp 64), none, [64]⟩,
    ⟨(some 66), .fieldAddr 59 (.tmp 7) 0, none, []⟩,
    ⟨(some 67), .load 3 (.tmp 66), none, [66]⟩,
    ⟨(some 68), .binOp .shl 26 (.const (.int .u64 1)) (.tmp 67) 3, none, [67]⟩,
    ⟨(some 69), .binOp .rem 26 (.tmp 65) (.tmp 68) 26, none, [65, 68]⟩,
    ⟨(some 15), .assign (.tmp 60), none, [60]⟩,
    ⟨(some 16), .assign (.tmp 69), none, [69]⟩] [0, 1, 0, 7, 15, 0, 32, 96, 255, 0, 512, 0, 3584, 7680, 0, 16384, 49152, 130560, 511, 524287])
  (.seq (.reg [⟨(some 70), .move (.tmp 9), none, []⟩,
    ⟨(some 71), .move (.tmp 15), none, []⟩,
    ⟨(some 72), .buildSlice 30 1 #[(0, (.tmp 71))], none, [71]⟩,
    ⟨(some 73), .call ⟨.builtin .append, #[(.tmp 70), (.tmp 72)], #[30, 30]⟩, none, [70, 72]⟩,
    ⟨(some 9), .assign (.tmp 73), none, [73]⟩])
  (.seq (.reg [⟨(some 74), .move (.tmp 10), none, []⟩,
    ⟨(some 75), .move (.tmp 16), none, []⟩,
    ⟨(some 76), .buildSlice 30 1 #[(0, (.tmp 75))], none, [75]⟩,
    ⟨(some 77), .call ⟨.builtin .append, #[(.tmp 74), (.tmp 76)], #[30, 30]⟩, none, [74, 76]⟩,
    ⟨(some 10), .assign (.tmp 77), none, [77]⟩])
  (.seq (.reg [⟨(some 78), .move (.tmp 11), none, []⟩,
    ⟨(some 79), .move (.tmp 15), none, []⟩,
    ⟨(some 80), .move (.tmp 16), none, []⟩,
    ⟨(some 81), .binOp .xor 26 (.tmp 79) (.tmp 80) 26, none, [79, 80]⟩,
    ⟨(some 82), .buildSlice 30 1 #[(0, (.tmp 81))], none, [81]⟩,
    ⟨(some 83), .call ⟨.builtin .append, #[(.tmp 78), (.tmp 82)], #[30, 30]⟩, none, [78, 82]⟩,
    ⟨(some 11), .assign (.tmp 83), none, [83]⟩])
  (.seq (.reg [⟨(some 85), .load 59 (.tmp 7), none, []⟩,
    ⟨(some 86), .move (.tmp 13), none, []⟩,
    ⟨(some 87), .call ⟨.value (.func 20), #[(.tmp 85), (.tmp 86)], #[59, 26]⟩, none, [85, 86]⟩,
    ⟨(some 84), .move (.tmp 87), none, [87]⟩,
    ⟨(some 88), .extract (.tmp 84) 0, none, []⟩,
    ⟨(some 89), .extract (.tmp 84) 1, none, [84]⟩,
    ⟨(some 17), .assign (.tmp 88), none, [88]⟩,
    ⟨(some 18), .assign (.tmp 89), none, [89]⟩])
  (.seq (.seq (.reg [⟨(some 90), .move (.tmp 18), none, []⟩,
    ⟨(some 91), .binOp .neq 36 (.tmp 90) (.const (.int .i64 0)) 36, none, [90]⟩])
  (.cond (.tmp 91) (.seq (.reg [⟨(some 6), .assign (.const (.bool false)), none, []⟩])
  .ret)
  .skip))
  (.seq (.reg [⟨(some 92), .move (.tmp 17), none, []⟩,
    ⟨(some 93), .move (.tmp 15), none, []⟩,
    ⟨(some 94), .binOp .xor 26 (.tmp 92) (.tmp 93) 26, none, [92, 93]⟩,
    ⟨(some 13), .assign (.tmp 94), none, [94]⟩])
  (.seq (.seq (.reg [⟨(some 95), .move (.tmp 14), none, []⟩,
    ⟨(some 96), .move (.tmp 2), none, []⟩,
    ⟨(some 97), .convert 5 3 (.tmp 96), none, [96]⟩,
    ⟨(some 98), .move (.tmp 8), none, []⟩,
    ⟨(some 99), .binOp .rem 3 (.tmp 97) (.tmp 98) 3, none, [97, 98]⟩,
    ⟨(some 100), .binOp .eql 3 (.tmp 95) (.tmp 99) 3, none, [95, 99]⟩])
  (.cond (.tmp 100) (.reg [⟨(some 101), .move (.tmp 15), none, []⟩,
    ⟨(some 102), .move (.tmp 16), none, []⟩,
    ⟨(some 103), .fieldAddr 59 (.tmp 7) 0, none, []⟩,
    ⟨(some 104), .load 3 (.tmp 103), none, [103]⟩,
    ⟨(some 105), .binOp .shl 26 (.const (.int .u64 1)) (.tmp 104) 3, none, [104]⟩,
    ⟨(some 106), .binOp .sub 26 (.tmp 105) (.const (.int .u64 1)) 26, none, [105]⟩,
    ⟨(some 107), .binOp .rem 26 (.tmp 102) (.tmp 106) 26, none, [102, 106]⟩,
    ⟨(some 108), .binOp .add 26 (.const (.int .u64 1)) (.tmp 107) 26, none, [107]⟩,
    ⟨(some 109), .binOp .xor 26 (.tmp 101) (.tmp 108) 26, none, [101, 108]⟩,
    ⟨(some 15), .assign (.tmp 109), none, [109]⟩])
  .skip))
  (.reg [⟨(some 110), .move (.tmp 12), none, []⟩,
    ⟨(some 111), .move (.tmp 15), none, []⟩,
    ⟨(some 112), .buildSlice 30 1 #[(0, (.tmp 111))], none, [111]⟩,
    ⟨(some 113), .call ⟨.builtin .append, #[(.tmp 110), (.tmp 112)], #[30, 30]⟩, none, [110, 112]⟩,
    ⟨(some 12), .assign (.tmp 113), none, [113]⟩]))))))))))
  (.reg [⟨(some 50), .move (.tmp 14), none, []⟩,
    ⟨(some 51), .binOp .add 3 (.tmp 50) (.const (.int .i64 1)) 3, none, [50]⟩,
    ⟨(some 14), .assign (.tmp 51), none, [51]⟩]))))))
  (.seq (.reg [⟨(some 115), .load 59 (.tmp 7), none, []⟩,
    ⟨(some 116), .move (.tmp 9), none, []⟩,
    ⟨(some 117), .call ⟨.value (.func 21), #[(.tmp 115), (.const (.int .u64 0)), (.tmp 116)], #[59, 26, 30]⟩, none, [115, 116]⟩,
    ⟨(some 114), .move (.tmp 117), none, [117]⟩,
    ⟨(some 118), .extract (.tmp 114) 0, none, []⟩,
    ⟨(some 119), .extract (.tmp 114) 1, none, [114]⟩,
    ⟨(some 19), .assign (.tmp 118), none, [118]⟩,
    ⟨(some 20), .assign (.tmp 119), none, [119]⟩])
  (.seq (.reg [⟨(some 121), .load 59 (.tmp 7), none, []⟩,
    ⟨(some 122), .move (.tmp 10), none, []⟩,
    ⟨(some 123), .call ⟨.value (.func 21), #[(.tmp 121), (.const (.int .u64 0)), (.tmp 122)], #[59, 26, 30]⟩, none, [121, 122]⟩,
    ⟨(some 120), .move (.tmp 123), none, [123]⟩,
    ⟨(some 124), .extract (.tmp 120) 0, none, []⟩,
    ⟨(some 125), .extract (.tmp 120) 1, none, [120]⟩,
    ⟨(some 21), .assign (.tmp 124), none, [124]⟩,
    ⟨(some 22), .assign (.tmp 125), none, [125]⟩])
  (.seq (.reg [⟨(some 127), .load 59 (.tmp 7), none, []⟩,
    ⟨(some 128), .move (.tmp 11), none, []⟩,
    ⟨(some 129), .call ⟨.value (.func 21), #[(.tmp 127), (.const (.int .u64 0)), (.tmp 128)], #[59, 26, 30]⟩, none, [127, 128]⟩,
    ⟨(some 126), .move (.tmp 129), none, [129]⟩,
    ⟨(some 130), .extract (.tmp 126) 0, none, []⟩,
    ⟨(some 131), .extract (.tmp 126) 1, none, [126]⟩,
    ⟨(some 23), .assign (.tmp 130), none, [130]⟩,
    ⟨(some 24), .assign (.tmp 131), none, [131]⟩])
  (.seq (.reg [⟨(some 133), .load 59 (.tmp 7), none, []⟩,
    ⟨(some 134), .move (.tmp 12), none, []⟩,
    ⟨(some 135), .call ⟨.value (.func 21), #[(.tmp 133), (.const (.int .u64 0)), (.tmp 134)], #[59, 26, 30]⟩, none, [133, 134]⟩,
    ⟨(some 132), .move (.tmp 135), none, [135]⟩,
    ⟨(some 136), .extract (.tmp 132) 0, none, []⟩,
    ⟨(some 137), .extract (.tmp 132) 1, none, [132]⟩,
    ⟨(some 25), .assign (.tmp 136), none, [136]⟩,
    ⟨(some 26), .assign (.tmp 137), none, [137]⟩])
  (.seq (.reg [⟨(some 138), .move (.tmp 20), none, []⟩,
    ⟨(some 139), .binOp .eql 36 (.tmp 138) (.const (.int .i64 0)) 36, none, [138]⟩,
    ⟨(some 140), .move (.tmp 139), none, [139]⟩,
    ⟨(some 141), .move (.tmp 22), (some (140, true)), []⟩,
    ⟨(some 142), .binOp .eql 36 (.tmp 141) (.const (.int .i64 0)) 36, (some (140, true)), [141]⟩,
    ⟨(some 143), .pick (.tmp 140) (.tmp 142) (.const (.bool false)), none, [140, 142]⟩,
    ⟨(some 144), .move (.tmp 143), none, [143]⟩,
    ⟨(some 145), .move (.tmp 24), (some (144, true)), []⟩,
    ⟨(some 146), .binOp .eql 36 (.tmp 145) (.const (.int .i64 0)) 36, (some (144, true)), [145]⟩,
    ⟨(some 147), .pick (.tmp 144) (.tmp 146) (.const (.bool false)), none, [144, 146]⟩,
    ⟨(some 148), .move (.tmp 147), none, [147]⟩,
    ⟨(some 149), .move (.tmp 26), (some (148, true)), []⟩,
    ⟨(some 150), .binOp .eql 36 (.tmp 149) (.const (.int .i64 0)) 36, (some (148, true)), [149]⟩,
    ⟨(some 151), .pick (.tmp 148) (.tmp 150) (.const (.bool false)), none, [148, 150]⟩,
    ⟨(some 152), .move (.tmp 151), none, [151]⟩,
    ⟨(some 153), .move (.tmp 19), (some (152, true)), []⟩,
    ⟨(some 154), .move (.tmp 13), (some (152, true)), []⟩,
    ⟨(some 155), .binOp .eql 26 (.tmp 153) (.tmp 154) 26, (some (152, true)), [153, 154]⟩,
    ⟨(some 156), .pick (.tmp 152) (.tmp 155) (.const (.bool false)), none, [152, 155]⟩,
    ⟨(some 157), .move (.tmp 156), none, [156]⟩,
    ⟨(some 158), .move (.tmp 23), (some (157, true)), []⟩,
    ⟨(some 159), .move (.tmp 19), (some (157, true)), []⟩,
    ⟨(some 160), .move (.tmp 21), (some (157, true)), []⟩,
    ⟨(some 161), .binOp .xor 26 (.tmp 159) (.tmp 160) 26, (some (157, true)), [159, 160]⟩,
    ⟨(some 162), .binOp .eql 26 (.tmp 158) (.tmp 161) 26, (some (157, true)), [158, 161]⟩,
    ⟨(some 163), .pick (.tmp 157) (.tmp 162) (.const (.bool false)), none, [157, 162]⟩,
    ⟨(some 164), .move (.tmp 163), none, [163]⟩,
    ⟨(some 165), .move (.tmp 8), (some (164, true)), []⟩,
    ⟨(some 166), .binOp .eql 3 (.tmp 165) (.const (.int .i64 0)) 3, (some (164, true)), [165]⟩,
    ⟨(some 167), .move (.tmp 166), (some (164, true)), [166]⟩,
    ⟨(some 168), .move (.tmp 25), (some (167, false)), []⟩,
    ⟨(some 169), .move (.tmp 19), (some (167, false)), []⟩,
    ⟨(some 170), .binOp .neq 26 (.tmp 168) (.tmp 169) 26, (some (167, false)), [168, 169]⟩,
    ⟨(some 171), .pick (.tmp 167) (.const (.bool true)) (.tmp 170), (some (164, true)), [167, 170]⟩,
    ⟨(some 172), .pick (.tmp 164) (.tmp 171) (.const (.bool false)), none, [164, 171]⟩,
    ⟨(some 173), .move (.tmp 172), none, [172]⟩,
    ⟨(some 174), .call ⟨.value (.func 9), #[], #[]⟩, (some (173, true)), []⟩,
    ⟨(some 175), .pick (.tmp 173) (.tmp 174) (.const (.bool false)), none, [173, 174]⟩,
    ⟨(some 6), .assign (.tmp 175), none, [175]⟩])
  .ret))))))))))))
theorem s7 : Stripped Try.prog 7 176 [.tmp 6] C7 := ⟨Try.f7, _, [[[0], [1], []], [[], [27], [28], [29], [30], [], [32], [33], [34], [31, 35]], [[], [37]], [[], [38], [], [39]], [[], [40], [41], [], [43], [44], [42, 45], [46]], [[], [], [], []], [[]], [[]], [[], [], [47, 48]], [[], [52], [], [53, 54], [55], [], [57], [58], [56, 59], [], [61], [], [62, 63], [64], [], [66], [67], [65, 68], [60], [69]], [[], [], [71], [70, 72], [73]], [[], [], [75], [74, 76], [77]], [[], [], [], [79, 80], [81], [78, 82], [83]], [[], [], [85, 86], [87], [], [84], [88], [89]], [[], [90]], [[]], [[], [], [92, 93], [94]], [[], [], [96], [], [97, 98], [95, 99]], [[], [], [], [103], [104], [105], [102, 106], [107], [101, 108], [109]], [[], [], [111], [110, 112], [113]], [[], [50], [51]], [[], [], [115, 116], [117], [], [114], [118], [119]], [[], [], [121, 122], [123], [], [120], [124], [125]], [[], [], [127, 128], [129], [], [126], [130], [131]], [[], [], [133, 134], [135], [], [132], [136], [137]], [[], [138], [139], [], [141], [140, 142], [143], [], [145], [144, 146], [147], [], [149], [148, 150], [151], [], [], [153, 154], [152, 155], [156], [], [], [], [159, 160], [158, 161], [157, 162], [163], [], [165], [166], [], [], [168, 169], [167, 170], [164, 171], [172], [], [173, 174], [175]]], [], Try.func7, rfl, by kernel_rfl, rfl, rfl, by kernel_rfl⟩
/- probecard/probecardlaw33.lives -/
def C9 : CC := (.seq (.reg [⟨(some 0), .assign (.const (.bool false)), none, []⟩])
  (.seq (.reg [⟨(some 24), .buildSlice 30 3 #[(0, (.const (.int .u64 3))), (1, (.const (.int .u64 6))), (2, (.const (.int .u64 7)))], none, []⟩,
    ⟨(some 25), .build 32 #[(0, (.const (.int .i64 3))), (1, (.tmp 24))], none, [24]⟩,
    ⟨(some 1), .alloc 32, none, []⟩,
    ⟨none, .store 32 (.tmp 1) (.tmp 25), none, [25]⟩])
  (.seq (.reg [⟨(some 27), .load 32 (.tmp 1), none, []⟩,
    ⟨(some 28), .buildSlice 34 3 #[(0, (.const (.int .u8 1))), (1, (.const (.int .u8 0))), (2, (.const (.int .u8 0)))], none, []⟩,
    ⟨(some 29), .call ⟨.value (.func 12), #[(.tmp 27), (.tmp 28), (.const (.int .u64 0))], #[32, 34, 26]⟩, none, [27, 28]⟩,
    ⟨(some 26), .move (.tmp 29), none, [29]⟩,
    ⟨(some 30), .extract (.tmp 26) 0, none, []⟩,
    ⟨(some 31), .extract (.tmp 26) 1, none, [26]⟩,
    ⟨(some 2), .assign (.tmp 30), none, [30]⟩,
    ⟨(some 3), .assign (.tmp 31), none, [31]⟩])
  (.seq (.reg [⟨(some 33), .load 32 (.tmp 1), none, []⟩,
    ⟨(some 34), .buildSlice 34 3 #[(0, (.const (.int .u8 1))), (1, (.const (.int .u8 2))), (2, (.const (.int .u8 0)))], none, []⟩,
    ⟨(some 35), .call ⟨.value (.func 12), #[(.tmp 33), (.tmp 34), (.const (.int .u64 0))], #[32, 34, 26]⟩, none, [33, 34]⟩,
    ⟨(some 32), .move (.tmp 35), none, [35]⟩,
    ⟨(some 36), .extract (.tmp 32) 0, none, []⟩,
    ⟨(some 37), .extract (.tmp 32) 1, none, [32]⟩,
    ⟨(some 4), .assign (.tmp 36), none, [36]⟩,
    ⟨(some 5), .assign (.tmp 37), none, [37]⟩])
  (.seq (.reg [⟨(some 39), .load 32 (.tmp 1), none, []⟩,
    ⟨(some 40), .buildSlice 34 3 #[(0, (.const (.int .u8 1))), (1, (.const (.int .u8 2))), (2, (.const (.int .u8 0)))], none, []⟩,
    ⟨(some 41), .call ⟨.value (.func 12), #[(.tmp 39), (.tmp 40), (.const (.int .u64 2))], #[32, 34, 26]⟩, none, [39, 40]⟩,
    ⟨(some 38), .move (.tmp 41), none, [41]⟩,
    ⟨(some 42), .extract (.tmp 38) 0, none, []⟩,
    ⟨(some 43), .extract (.tmp 38) 1, none, [38]⟩,
    ⟨(some 6), .assign (.tmp 42), none, [42]⟩,
    ⟨(some 7), .assign (.tmp 43), none, [43]⟩])
  (.seq (.reg [⟨(some 45), .load 32 (.tmp 1), none, []⟩,
    ⟨(some 46), .buildSlice 34 3 #[(0, (.const (.int .u8 1))), (1, (.const (.int .u8 0))), (2, (.const (.int .u8 2)))], none, []⟩,
    ⟨(some 47), .buildSlice 34 3 #[(0, (.const (.int .u8 0))), (1, (.const (.int .u8 0))), (2, (.const (.int .u8 2)))], none, []⟩,
    ⟨(some 48), .call ⟨.value (.func 13), #[(.tmp 45), (.tmp 46), (.tmp 47), (.const (.int .u64 0))], #[32, 34, 34, 26]⟩, none, [45, 46, 47]⟩,
    ⟨(some 44), .move (.tmp 48), none, [48]⟩,
    ⟨(some 49), .extract (.tmp 44) 0, none, []⟩,
    ⟨(some 50), .extract (.tmp 44) 1, none, [44]⟩,
    ⟨(some 8), .assign (.tmp 49), none, [49]⟩,
    ⟨(some 9), .assign (.tmp 50), none, [50]⟩])
  (.seq (.reg [⟨(some 52), .load 32 (.tmp 1), none, []⟩,
    ⟨(some 53), .buildSlice 34 3 #[(0, (.const (.int .u8 1))), (1, (.const (.int .u8 0))), (2, (.const (.int .u8 2)))], none, []⟩,
    ⟨(some 54), .buildSlice 34 3 #[(0, (.const (.int .u8 0))), (1, (.const (.int .u8 0))), (2, (.const (.int .u8 2)))], none, []⟩,
    ⟨(some 55), .call ⟨.value (.func 13), #[(.tmp 52), (.tmp 53), (.tmp 54), (.const (.int .u64 4))], #[32, 34, 34, 26]⟩, none, [52, 53, 54]⟩,
    ⟨(some 51), .move (.tmp 55), none, [55]⟩,
    ⟨(some 56), .extract (.tmp 51) 0, none, []⟩,
    ⟨(some 57), .extract (.tmp 51) 1, none, [51]⟩,
    ⟨(some 10), .assign (.tmp 56), none, [56]⟩,
    ⟨(some 11), .assign (.tmp 57), none, [57]⟩])
  (.seq (.seq (.reg [⟨(some 58), .move (.tmp 3), none, []⟩,
    ⟨(some 59), .binOp .neq 36 (.tmp 58) (.const (.int .i64 0)) 36, none, [58]⟩,
    ⟨(some 60), .move (.tmp 59), none, [59]⟩,
    ⟨(some 61), .move (.tmp 5), (some (60, false)), []⟩,
    ⟨(some 62), .binOp .neq 36 (.tmp 61) (.const (.int .i64 0)) 36, (some (60, false)), [61]⟩,
    ⟨(some 63), .pick (.tmp 60) (.const (.bool true)) (.tmp 62), none, [60, 62]⟩,
    ⟨(some 64), .move (.tmp 63), none, [63]⟩,
    ⟨(some 65), .move (.tmp 7), (some (64, false)), []⟩,
    ⟨(some 66), .binOp .neq 36 (.tmp 65) (.const (.int .i64 0)) 36, (some (64, false)), [65]⟩,
    ⟨(some 67), .pick (.tmp 64) (.const (.bool true)) (.tmp 66), none, [64, 66]⟩,
    ⟨(some 68), .move (.tmp 67), none, [67]⟩,
    ⟨(some 69), .move (.tmp 9), (some (68, false)), []⟩,
    ⟨(some 70), .binOp .neq 36 (.tmp 69) (.const (.int .i64 0)) 36, (some (68, false)), [69]⟩,
    ⟨(some 71), .pick (.tmp 68) (.const (.bool true)) (.tmp 70), none, [68, 70]⟩,
    ⟨(some 72), .move (.tmp 71), none, [71]⟩,
    ⟨(some 73), .move (.tmp 11), (some (72, false)), []⟩,
    ⟨(some 74), .binOp .neq 36 (.tmp 73) (.const (.int .i64 0)) 36, (some (72, false)), [73]⟩,
    ⟨(some 75), .pick (.tmp 72) (.const (.bool true)) (.tmp 74), none, [72, 74]⟩,
    ⟨(some 76), .move (.tmp 75), none, [75]⟩,
    ⟨(some 77), .move (.tmp 2), (some (76, false)), []⟩,
    ⟨(some 78), .call ⟨.builtin .len, #[(.tmp 77)], #[34]⟩, (some (76, false)), [77]⟩,
    ⟨(some 79), .binOp .neq 3 (.tmp 78) (.const (.int .i64 3)) 3, (some (76, false)), [78]⟩,
    ⟨(some 80), .pick (.tmp 76) (.const (.bool true)) (.tmp 79), none, [76, 79]⟩,
    ⟨(some 81), .move (.tmp 80), none, [80]⟩,
    ⟨(some 82), .move (.tmp 2), (some (81, false)), []⟩,
    ⟨(some 83), .indexAddr 34 (.tmp 82) (.const (.int .i64 0)), (some (81, false)), [82]⟩,
    ⟨(some 84), .load 44 (.tmp 83), (some (81, false)), [83]⟩,
    ⟨(some 85), .binOp .neq 44 (.tmp 84) (.const (.int .u8 1)) 44, (some (81, false)), [84]⟩,
    ⟨(some 86), .pick (.tmp 81) (.const (.bool true)) (.tmp 85), none, [81, 85]⟩,
    ⟨(some 87), .move (.tmp 86), none, [86]⟩,
    ⟨(some 88), .move (.tmp 2), (some (87, false)), []⟩,
    ⟨(some 89), .indexAddr 34 (.tmp 88) (.const (.int .i64 1)), (some (87, false)), [88]⟩,
    ⟨(some 90), .load 44 (.tmp 89), (some (87, false)), [89]⟩,
    ⟨(some 91), .binOp .neq 44 (.tmp 90) (.const (.int .u8 1)) 44, (some (87, false)), [90]⟩,
    ⟨(some 92), .pick (.tmp 87) (.const (.bool true)) (.tmp 91), none, [87, 91]⟩,
    ⟨(some 93), .move (.tmp 92), none, [92]⟩,
    ⟨(some 94), .move (.tmp 2), (some (93, false)), []⟩,
    ⟨(some 95), .indexAddr 34 (.tmp 94) (.const (.int .i64 2)), (some (93, false)), [94]⟩,
    ⟨(some 96), .load 44 (.tmp 95), (some (93, false)), [95]⟩,
    ⟨(some 97), .binOp .neq 44 (.tmp 96) (.const (.int .u8 0)) 44, (some (93, false)), [96]⟩,
    ⟨(some 98), .pick (.tmp 93) (.const (.bool true)) (.tmp 97), none, [93, 97]⟩,
    ⟨(some 99), .move (.tmp 98), none, [98]⟩,
    ⟨(some 100), .move (.tmp 4), (some (99, false)), []⟩,
    ⟨(some 101), .call ⟨.builtin .len, #[(.tmp 100)], #[34]⟩, (some (99, false)), [100]⟩,
    ⟨(some 102), .binOp .neq 3 (.tmp 101) (.const (.int .i64 3)) 3, (some (99, false)), [101]⟩,
    ⟨(some 103), .pick (.tmp 99) (.const (.bool true)) (.tmp 102), none, [99, 102]⟩,
    ⟨(some 104), .move (.tmp 103), none, [103]⟩,
    ⟨(some 105), .move (.tmp 4), (some (104, false)), []⟩,
    ⟨(some 106), .indexAddr 34 (.tmp 105) (.const (.int .i64 0)), (some (104, false)), [105]⟩,
    ⟨(some 107), .load 44 (.tmp 106), (some (104, false)), [106]⟩,
    ⟨(some 108), .binOp .neq 44 (.tmp 107) (.const (.int .u8 1)) 44, (some (104, false)), [107]⟩,
    ⟨(some 109), .pick (.tmp 104) (.const (.bool true)) (.tmp 108), none, [104, 108]⟩,
    ⟨(some 110), .move (.tmp 109), none, [109]⟩,
    ⟨(some 111), .move (.tmp 4), (some (110, false)), []⟩,
    ⟨(some 112), .indexAddr 34 (.tmp 111) (.const (.int .i64 1)), (some (110, false)), [111]⟩,
    ⟨(some 113), .load 44 (.tmp 112), (some (110, false)), [112]⟩,
    ⟨(some 114), .binOp .neq 44 (.tmp 113) (.const (.int .u8 2)) 44, (some (110, false)), [113]⟩,
    ⟨(some 115), .pick (.tmp 110) (.const (.bool true)) (.tmp 114), none, [110, 114]⟩,
    ⟨(some 116), .move (.tmp 115), none, [115]⟩,
    ⟨(some 117), .move (.tmp 4), (some (116, false)), []⟩,
    ⟨(some 118), .indexAddr 34 (.tmp 117) (.const (.int .i64 2)), (some (116, false)), [117]⟩,
    ⟨(some 119), .load 44 (.tmp 118), (some (116, false)), [118]⟩,
    ⟨(some 120), .binOp .neq 44 (.tmp 119) (.const (.int .u8 2)) 44, (some (116, false)), [119]⟩,
    ⟨(some 121), .pick (.tmp 116) (.const (.bool true)) (.tmp 120), none, [116, 120]⟩,
    ⟨(some 122), .move (.tmp 121), none, [121]⟩,
    ⟨(some 123), .move (.tmp 6), (some (122, false)), []⟩,
    ⟨(some 124), .call ⟨.builtin .len, #[(.tmp 123)], #[34]⟩, (some (122, false)), [123]⟩,
    ⟨(some 125), .binOp .neq 3 (.tmp 124) (.const (.int .i64 3)) 3, (some (122, false)), [124]⟩,
    ⟨(some 126), .pick (.tmp 122) (.const (.bool true)) (.tmp 125), none, [122, 125]⟩,
    ⟨(some 127), .move (.tmp 126), none, [126]⟩,
    ⟨(some 128), .move (.tmp 6), (some (127, false)), []⟩,
    ⟨(some 129), .indexAddr 34 (.tmp 128) (.const (.int .i64 1)), (some (127, false)), [128]⟩,
    ⟨(some 130), .load 44 (.tmp 129), (some (127, false)), [129]⟩,
    ⟨(some 131), .binOp .neq 44 (.tmp 130) (.const (.int .u8 1)) 44, (some (127, false)), [130]⟩,
    ⟨(some 132), .pick (.tmp 127) (.const (.bool true)) (.tmp 131), none, [127, 131]⟩,
    ⟨(some 133), .move (.tmp 132), none, [132]⟩,
    ⟨(some 134), .move (.tmp 6), (some (133, false)), []⟩,
    ⟨(some 135), .indexAddr 34 (.tmp 134) (.const (.int .i64 2)), (some (133, false)), [134]⟩,
    ⟨(some 136), .load 44 (.tmp 135), (some (133, false)), [135]⟩,
    ⟨(some 137), .binOp .neq 44 (.tmp 136) (.const (.int .u8 0)) 44, (some (133, false)), [136]⟩,
    ⟨(some 138), .pick (.tmp 133) (.const (.bool true)) (.tmp 137), none, [133, 137]⟩,
    ⟨(some 139), .move (.tmp 138), none, [138]⟩,
    ⟨(some 140), .move (.tmp 8), (some (139, false)), []⟩,
    ⟨(some 141), .call ⟨.builtin .len, #[(.tmp 140)], #[39]⟩, (some (139, false)), [140]⟩,
    ⟨(some 142), .binOp .neq 3 (.tmp 141) (.const (.int .i64 0)) 3, (some (139, false)), [141]⟩,
    ⟨(some 143), .pick (.tmp 139) (.const (.bool true)) (.tmp 142), none, [139, 142]⟩,
    ⟨(some 144), .move (.tmp 143), none, [143]⟩,
    ⟨(some 145), .move (.tmp 10), (some (144, false)), []⟩,
    ⟨(some 146), .call ⟨.builtin .len, #[(.tmp 145)], #[39]⟩, (some (144, false)), [145]⟩,
    ⟨(some 147), .binOp .neq 3 (.tmp 146) (.const (.int .i64 2)) 3, (some (144, false)), [146]⟩,
    ⟨(some 148), .pick (.tmp 144) (.const (.bool true)) (.tmp 147), none, [144, 147]⟩,
    ⟨(some 149), .move (.tmp 148), none, [148]⟩,
    ⟨(some 150), .move (.tmp 10), (some (149, false)), []⟩,
    ⟨(some 151), .indexAddr 39 (.tmp 150) (.const (.int .i64 0)), (some (149, false)), [150]⟩,
    ⟨(some 152), .load 3 (.tmp 151), (some (149, false)), [151]⟩,
    ⟨(some 153), .binOp .neq 3 (.tmp 152) (.const (.int .i64 0)) 3, (some (149, false)), [152]⟩,
    ⟨(some 154), .pick (.tmp 149) (.const (.bool true)) (.tmp 153), none, [149, 153]⟩,
    ⟨(some 155), .move (.tmp 154), none, [154]⟩,
    ⟨(some 156), .move (.tmp 10), (some (155, false)), []⟩,
    ⟨(some 157), .indexAddr 39 (.tmp 156) (.const (.int .i64 1)), (some (155, false)), [156]⟩,
    ⟨(some 158), .load 3 (.tmp 157), (some (155, false)), [157]⟩,
    ⟨(some 159), .binOp .neq 3 (.tmp 158) (.const (.int .i64 1)) 3, (some (155, false)), [158]⟩,
    ⟨(some 160), .pick (.tmp 155) (.const (.bool true)) (.tmp 159), none, [155, 159]⟩])
  (.cond (.tmp 160) (.seq (.reg [⟨(some 0), .assign (.const (.bool false)), none, []⟩])
  .ret)
  .skip))
  (.seq (.reg [⟨(some 162), .load 32 (.tmp 1), none, []⟩,
    ⟨(some 163), .call ⟨.value (.func 17), #[(.tmp 162), (.const (.int .i64 0)), (.const (.int .u64 2))], #[32, 3, 26]⟩, none, [162]⟩,
    ⟨(some 161), .move (.tmp 163), none, [163]⟩,
    ⟨(some 164), .extract (.tmp 161) 0, none, []⟩,
    ⟨(some 165), .extract (.tmp 161) 1, none, [161]⟩,
    ⟨(some 12), .assign (.tmp 164), none, [164]⟩,
    ⟨(some 13), .assign (.tmp 165), none, [165]⟩])
  (.seq (.reg [⟨(some 167), .load 32 (.tmp 1), none, []⟩,
    ⟨(some 168), .call ⟨.value (.func 17), #[(.tmp 167), (.const (.int .i64 1)), (.const (.int .u64 4))], #[32, 3, 26]⟩, none, [167]⟩,
    ⟨(some 166), .move (.tmp 168), none, [168]⟩,
    ⟨(some 169), .extract (.tmp 166) 0, none, []⟩,
    ⟨(some 170), .extract (.tmp 166) 1, none, [166]⟩,
    ⟨(some 14), .assign (.tmp 169), none, [169]⟩,
    ⟨(some 15), .assign (.tmp 170), none, [170]⟩])
  (.seq (.reg [⟨(some 172), .load 32 (.tmp 1), none, []⟩,
    ⟨(some 173), .buildSlice 39 2 #[(0, (.const (.int .i64 1))), (1, (.const (.int .i64 2)))], none, []⟩,
    ⟨(some 174), .call ⟨.value (.func 18), #[(.tmp 172), (.tmp 173)], #[32, 39]⟩, none, [172, 173]⟩,
    ⟨(some 171), .move (.tmp 174), none, [174]⟩,
    ⟨(some 175), .extract (.tmp 171) 0, none, []⟩,
    ⟨(some 176), .extract (.tmp 171) 1, none, [171]⟩,
    ⟨(some 16), .assign (.tmp 175), none, [175]⟩,
    ⟨(some 17), .assign (.tmp 176), none, [176]⟩])
  (.seq (.reg [⟨(some 178), .load 32 (.tmp 1), none, []⟩,
    ⟨(some 179), .buildSlice 39 1 #[(0, (.const (.int .i64 0)))], none, []⟩,
    ⟨(some 180), .call ⟨.value (.func 18), #[(.tmp 178), (.tmp 179)], #[32, 39]⟩, none, [178, 179]⟩,
    ⟨(some 177), .move (.tmp 180), none, [180]⟩,
    ⟨(some 181), .extract (.tmp 177) 0, none, []⟩,
    ⟨(some 182), .extract (.tmp 177) 1, none, [177]⟩,
    ⟨(some 18), .assign (.tmp 181), none, [181, 18]⟩,
    ⟨(some 19), .assign (.tmp 182), none, [182]⟩])
  (.seq (.reg [⟨(some 184), .buildSlice 34 4 #[(0, (.const (.int .u8 1))), (1, (.const (.int .u8 2))), (2, (.const (.int .u8 0))), (3, (.const (.int .u8 2)))], none, []⟩,
    ⟨(some 185), .call ⟨.value (.func 14), #[(.tmp 184)], #[34]⟩, none, [184]⟩,
    ⟨(some 183), .move (.tmp 185), none, [185]⟩,
    ⟨(some 186), .extract (.tmp 183) 0, none, []⟩,
    ⟨(some 187), .extract (.tmp 183) 1, none, [183]⟩,
    ⟨(some 20), .assign (.tmp 186), none, [186]⟩,
    ⟨(some 21), .assign (.tmp 187), none, [187]⟩])
  (.seq (.reg [⟨(some 189), .build 59 #[(0, (.const (.int .i64 4))), (1, (.const (.int .u64 12)))], none, []⟩,
    ⟨(some 190), .buildSlice 30 2 #[(0, (.const (.int .u64 1))), (1, (.const (.int .u64 2)))], none, []⟩,
    ⟨(some 191), .call ⟨.value (.func 21), #[(.tmp 189), (.const (.int .u64 0)), (.tmp 190)], #[59, 26, 30]⟩, none, [189, 190]⟩,
    ⟨(some 188), .move (.tmp 191), none, [191]⟩,
    ⟨(some 192), .extract (.tmp 188) 0, none, []⟩,
    ⟨(some 193), .extract (.tmp 188) 1, none, [188]⟩,
    ⟨(some 22), .assign (.tmp 192), none, [192]⟩,
    ⟨(some 23), .assign (.tmp 193), none, [193]⟩])
  (.seq (.reg [⟨(some 194), .move (.tmp 13), none, []⟩,
    ⟨(some 195), .binOp .eql 36 (.tmp 194) (.const (.int .i64 0)) 36, none, [194]⟩,
    ⟨(some 196), .move (.tmp 195), none, [195]⟩,
    ⟨(some 197), .move (.tmp 12), (some (196, true)), []⟩,
    ⟨(some 198), .pick (.tmp 196) (.tmp 197) (.const (.bool false)), none, [196, 197]⟩,
    ⟨(some 199), .move (.tmp 198), none, [198]⟩,
    ⟨(some 200), .move (.tmp 15), (some (199, true)), []⟩,
    ⟨(some 201), .binOp .eql 36 (.tmp 200) (.const (.int .i64 0)) 36, (some (199, true)), [200]⟩,
    ⟨(some 202), .pick (.tmp 199) (.tmp 201) (.const (.bool false)), none, [199, 201]⟩,
    ⟨(some 203), .move (.tmp 202), none, [202]⟩,
    ⟨(some 204), .move (.tmp 14), (some (203, true)), []⟩,
    ⟨(some 205), .unOp .not 4 (.tmp 204), (some (203, true)), [204]⟩,
    ⟨(some 206), .pick (.tmp 203) (.tmp 205) (.const (.bool false)), none, [203, 205]⟩,
    ⟨(some 207), .move (.tmp 206), none, [206]⟩,
    ⟨(some 208), .move (.tmp 17), (some (207, true)), []⟩,
    ⟨(some 209), .binOp .eql 36 (.tmp 208) (.const (.int .i64 0)) 36, (some (207, true)), [208]⟩,
    ⟨(some 210), .pick (.tmp 207) (.tmp 209) (.const (.bool false)), none, [207, 209]⟩,
    ⟨(some 211), .move (.tmp 210), none, [210]⟩,
    ⟨(some 212), .move (.tmp 16), (some (211, true)), []⟩,
    ⟨(some 213), .binOp .eql 3 (.tmp 212) (.const (.int .i64 1)) 3, (some (211, true)), [212]⟩,
    ⟨(some 214), .pick (.tmp 211) (.tmp 213) (.const (.bool false)), none, [211, 213]⟩,
    ⟨(some 215), .move (.tmp 214), none, [214]⟩,
    ⟨(some 216), .move (.tmp 19), (some (215, true)), []⟩,
    ⟨(some 217), .binOp .eql 36 (.tmp 216) (.const (.int .i64 9)) 36, (some (215, true)), [216]⟩,
    ⟨(some 218), .pick (.tmp 215) (.tmp 217) (.const (.bool false)), none, [215, 217]⟩,
    ⟨(some 219), .move (.tmp 218), none, [218]⟩,
    ⟨(some 220), .move (.tmp 21), (some (219, true)), []⟩,
    ⟨(some 221), .binOp .eql 36 (.tmp 220) (.const (.int .i64 0)) 36, (some (219, true)), [220]⟩,
    ⟨(some 222), .pick (.tmp 219) (.tmp 221) (.const (.bool false)), none, [219, 221]⟩,
    ⟨(some 223), .move (.tmp 222), none, [222]⟩,
    ⟨(some 224), .move (.tmp 20), (some (223, true)), []⟩,
    ⟨(some 225), .binOp .eql 26 (.tmp 224) (.const (.int .u64 10)) 26, (some (223, true)), [224]⟩,
    ⟨(some 226), .pick (.tmp 223) (.tmp 225) (.const (.bool false)), none, [223, 225]⟩,
    ⟨(some 227), .move (.tmp 226), none, [226]⟩,
    ⟨(some 228), .move (.tmp 23), (some (227, true)), []⟩,
    ⟨(some 229), .binOp .eql 36 (.tmp 228) (.const (.int .i64 0)) 36, (some (227, true)), [228]⟩,
    ⟨(some 230), .pick (.tmp 227) (.tmp 229) (.const (.bool false)), none, [227, 229]⟩,
    ⟨(some 231), .move (.tmp 230), none, [230]⟩,
    ⟨(some 232), .move (.tmp 22), (some (231, true)), []⟩,
    ⟨(some 233), .binOp .eql 26 (.tmp 232) (.const (.int .u64 0)) 26, (some (231, true)), [232]⟩,
    ⟨(some 234), .pick (.tmp 231) (.tmp 233) (.const (.bool false)), none, [231, 233]⟩,
    ⟨(some 0), .assign (.tmp 234), none, [234]⟩])
  .ret)))))))))))))))
theorem s9 : Stripped Try.prog 9 235 [.tmp 0] C9 := ⟨Try.f9, _, [[[]], [[], [24], [], [25]], [[], [], [27, 28], [29], [], [26], [30], [31]], [[], [], [33, 34], [35], [], [32], [36], [37]], [[], [], [39, 40], [41], [], [38], [42], [43]], [[], [], [], [45, 46, 47], [48], [], [44], [49], [50]], [[], [], [], [52, 53, 54], [55], [], [51], [56], [57]], [[], [58], [59], [], [61], [60, 62], [63], [], [65], [64, 66], [67], [], [69], [68, 70], [71], [], [73], [72, 74], [75], [], [77], [78], [76, 79], [80], [], [82], [83], [84], [81, 85], [86], [], [88], [89], [90], [87, 91], [92], [], [94], [95], [96], [93, 97], [98], [], [100], [101], [99, 102], [103], [], [105], [106], [107], [104, 108], [109], [], [111], [112], [113], [110, 114], [115], [], [117], [118], [119], [116, 120], [121], [], [123], [124], [122, 125], [126], [], [128], [129], [130], [127, 131], [132], [], [134], [135], [136], [133, 137], [138], [], [140], [141], [139, 142], [143], [], [145], [146], [144, 147], [148], [], [150], [151], [152], [149, 153], [154], [], [156], [157], [158], [155, 159]], [[]], [[], [162], [163], [], [161], [164], [165]], [[], [167], [168], [], [166], [169], [170]], [[], [], [172, 173], [174], [], [171], [175], [176]], [[], [], [178, 179], [180], [], [177], [181, 18], [182]], [[], [184], [185], [], [183], [186], [187]], [[], [], [189, 190], [191], [], [188], [192], [193]], [[], [194], [195], [], [196, 197], [198], [], [200], [199, 201], [202], [], [204], [203, 205], [206], [], [208], [207, 209], [210], [], [212], [211, 213], [214], [], [216], [215, 217], [218], [], [220], [219, 221], [222], [], [224], [223, 225], [226], [], [228], [227, 229], [230], [], [232], [231, 233], [234]]], [], Try.func9, rfl, by kernel_rfl, rfl, rfl, by kernel_rfl⟩
/- (probecard/probecardlaw33.K).Of -/
def C10 : CC := (.seq (.reg [⟨(some 1), .box 24 (.tmp 0), none, [0]⟩,
    ⟨(some 2), .alloc 32, none, []⟩])
  (.seq (.reg [⟨(some 5), .fieldAddr 24 (.tmp 1) 0, none, []⟩,
    ⟨(some 6), .load 5 (.tmp 5), none, [5]⟩,
    ⟨(some 7), .binOp .rem 5 (.tmp 6) (.const (.int .u8 17)) 5, none, [6]⟩,
    ⟨(some 8), .convert 5 3 (.tmp 7), none, [7]⟩,
    ⟨(some 9), .build 32 #[(0, (.tmp 8))], none, [8]⟩,
    ⟨(some 3), .alloc 32, none, []⟩,
    ⟨none, .store 32 (.tmp 3) (.tmp 9), none, [9]⟩])
  (.seq (.seq (.reg [⟨(some 4), .assign (.const (.int .i64 0)), none, []⟩])
  (.block 0 (.loop (.seq (.seq (.reg [⟨(some 10), .move (.tmp 4), none, []⟩,
    ⟨(some 11), .fieldAddr 24 (.tmp 1) 1, none, []⟩,
    ⟨(some 12), .load 22 (.tmp 11), none, [11]⟩,
    ⟨(some 13), .call ⟨.builtin .len, #[(.tmp 12)], #[22]⟩, none, [12]⟩,
    ⟨(some 14), .binOp .lss 3 (.tmp 10) (.tmp 13) 3, none, [10, 13]⟩])
  (.cond (.tmp 14) .skip
  (.exit 0)))
  (.seq (.block 1 (.drw [⟨(some 17), .fieldAddr 32 (.tmp 3) 1, none, []⟩,
    ⟨(some 18), .load 30 (.tmp 17), none, [17]⟩,
    ⟨(some 19), .fieldAddr 24 (.tmp 1) 1, none, []⟩,
    ⟨(some 20), .load 22 (.tmp 19), none, [19]⟩,
    ⟨(some 21), .move (.tmp 4), none, []⟩,
    ⟨(some 22), .indexAddr 22 (.tmp 20) (.tmp 21), none, [20, 21]⟩,
    ⟨(some 23), .load 51 (.tmp 22), none, [22]⟩,
    ⟨(some 24), .convert 51 26 (.tmp 23), none, [23]⟩,
    ⟨(some 25), .fieldAddr 32 (.tmp 3) 0, none, []⟩,
    ⟨(some 26), .load 3 (.tmp 25), none, [25]⟩,
    ⟨(some 27), .binOp .shl 26 (.const (.int .u64 1)) (.tmp 26) 3, none, [26]⟩,
    ⟨(some 28), .binOp .rem 26 (.tmp 24) (.tmp 27) 26, none, [24, 27]⟩,
    ⟨(some 29), .buildSlice 30 1 #[(0, (.tmp 28))], none, [28]⟩,
    ⟨(some 30), .call ⟨.builtin .append, #[(.tmp 18), (.tmp 29)], #[30, 30]⟩, none, [18, 29]⟩,
    ⟨(some 31), .fieldAddr 32 (.tmp 3) 1, none, []⟩,
    ⟨none, .store 30 (.tmp 31) (.tmp 30), none, [30, 31]⟩] [0, 1, 0, 4, 0, 28, 60, 124, 0, 256, 768, 2044, 4092, 8191, 16383, 32767]))
  (.reg [⟨(some 15), .move (.tmp 4), none, []⟩,
    ⟨(some 16), .binOp .add 3 (.tmp 15) (.const (.int .i64 1)) 3, none, [15]⟩,
    ⟨(some 4), .assign (.tmp 16), none, [16]⟩]))))))
  (.seq (.reg [⟨(some 32), .load 32 (.tmp 3), none, []⟩,
    ⟨none, .store 32 (.tmp 2) (.tmp 32), none, [32]⟩])
  .ret))))
theorem s10 : Stripped Try.prog 10 33 [.cell 2 32] C10 := ⟨Try.f10, _, [[[0], []], [[], [5], [6], [7], [8], [], [9]], [[]], [[], [], [11], [12], [10, 13]], [[], [17], [], [19], [], [20, 21], [22], [23], [], [25], [26], [24, 27], [28], [18, 29], [], [30, 31]], [[], [15], [16]], [[], [32]]], [], Try.func10, rfl, by kernel_rfl, rfl, rfl, by kernel_rfl⟩
/- probecard/probecardlaw33.slice -/
def C11 : CC := (.seq (.reg [⟨(some 4), .assign (.const (.slice none 0 0)), none, []⟩])
  (.seq (.reg [⟨(some 7), .move (.tmp 1), none, []⟩,
    ⟨(some 8), .makeSlice 34 (.tmp 7) (.tmp 7), none, [7]⟩,
    ⟨(some 5), .assign (.tmp 8), none, [8]⟩])
  (.seq (.seq (.reg [⟨(some 6), .assign (.const (.int .i64 0)), none, []⟩])
  (.block 0 (.loop (.seq (.seq (.reg [⟨(some 9), .move (.tmp 6), none, []⟩,
    ⟨(some 10), .move (.tmp 1), none, []⟩,
    ⟨(some 11), .binOp .lss 3 (.tmp 9) (.tmp 10) 3, none, [9, 10]⟩,
    ⟨(some 12), .move (.tmp 11), none, [11]⟩,
    ⟨(some 13), .move (.tmp 6), (some (12, true)), []⟩,
    ⟨(some 14), .move (.tmp 0), (some (12, true)), []⟩,
    ⟨(some 15), .call ⟨.builtin .len, #[(.tmp 14)], #[25]⟩, (some (12, true)), [14]⟩,
    ⟨(some 16), .binOp .lss 3 (.tmp 13) (.tmp 15) 3, (some (12, true)), [13, 15]⟩,
    ⟨(some 17), .pick (.tmp 12) (.tmp 16) (.const (.bool false)), none, [12, 16]⟩])
  (.cond (.tmp 17) .skip
  (.exit 0)))
  (.seq (.block 1 (.reg [⟨(some 20), .move (.tmp 5), none, []⟩,
    ⟨(some 21), .move (.tmp 6), none, []⟩,
    ⟨(some 22), .move (.tmp 0), none, []⟩,
    ⟨(some 23), .move (.tmp 6), none, []⟩,
    ⟨(some 24), .indexAddr 25 (.tmp 22) (.tmp 23), none, [22, 23]⟩,
    ⟨(some 25), .load 5 (.tmp 24), none, [24]⟩,
    ⟨(some 26), .binOp .rem 5 (.tmp 25) (.const (.int .u8 3)) 5, none, [25]⟩,
    ⟨(some 27), .indexAddr 34 (.tmp 20) (.tmp 21), none, [20, 21]⟩,
    ⟨none, .store 44 (.tmp 27) (.tmp 26), none, [26, 27]⟩]))
  (.reg [⟨(some 18), .move (.tmp 6), none, []⟩,
    ⟨(some 19), .binOp .add 3 (.tmp 18) (.const (.int .i64 1)) 3, none, [18]⟩,
    ⟨(some 6), .assign (.tmp 19), none, [19]⟩]))))))
  (.seq (.reg [⟨(some 28), .move (.tmp 5), none, []⟩,
    ⟨(some 4), .assign (.tmp 28), none, [28]⟩])
  .ret))))
theorem s11 : Stripped Try.prog 11 29 [.tmp 4] C11 := ⟨Try.f11, _, [[[]], [[], [7], [8]], [[]], [[], [], [9, 10], [11], [], [], [14], [13, 15], [12, 16]], [[], [], [], [], [22, 23], [24], [25], [20, 21], [26, 27]], [[], [18], [19]], [[], [28]]], [], Try.func11, rfl, by kernel_rfl, rfl, rfl, by kernel_rfl⟩
/- probecard/compactors.Compact -/
def C12 : CC := (.seq (.reg [⟨(some 3), .box 32 (.tmp 0), none, [0]⟩,
    ⟨(some 6), .assign (.const (.slice none 0 0)), none, []⟩,
    ⟨(some 7), .assign (.const (.int .i64 0)), none, []⟩])
  (.seq (.seq (.reg [⟨(some 9), .load 32 (.tmp 3), none, []⟩,
    ⟨(some 10), .move (.tmp 2), none, []⟩,
    ⟨(some 11), .move (.tmp 1), none, []⟩,
    ⟨(some 12), .buildSlice 79 1 #[(0, (.tmp 11))], none, [11]⟩,
    ⟨(some 13), .call ⟨.value (.func 23), #[(.tmp 9), (.tmp 10), (.tmp 12)], #[32, 26, 79]⟩, none, [9, 10, 12]⟩,
    ⟨(some 8), .assign (.tmp 13), none, [13]⟩])
  (.seq (.reg [⟨(some 14), .move (.tmp 8), none, []⟩,
    ⟨(some 15), .binOp .neq 36 (.tmp 14) (.const (.int .i64 0)) 36, none, [14]⟩])
  (.cond (.tmp 15) (.seq (.reg [⟨(some 16), .move (.tmp 8), none, []⟩,
    ⟨(some 6), .assign (.const (.slice none 0 0)), none, []⟩,
    ⟨(some 7), .assign (.tmp 16), none, [16]⟩])
  .ret)
  .skip)))
  (.seq (.reg [⟨(some 17), .load 32 (.tmp 3), none, []⟩,
    ⟨(some 18), .move (.tmp 1), none, []⟩,
    ⟨(some 19), .move (.tmp 2), none, []⟩,
    ⟨(some 20), .call ⟨.value (.func 24), #[(.tmp 17), (.tmp 18), (.tmp 19)], #[32, 34, 26]⟩, none, [17, 18, 19]⟩,
    ⟨(some 6), .assign (.tmp 20), none, [20]⟩,
    ⟨(some 7), .assign (.const (.int .i64 0)), none, []⟩])
  .ret)))
theorem s12 : Stripped Try.prog 12 21 [.tmp 6, .tmp 7] C12 := ⟨Try.f12, _, [[[0], [], []], [[], [], [], [11], [9, 10, 12], [13]], [[], [14]], [[], [], [16]], [[], [], [], [17, 18, 19], [20], []]], [], Try.func12, rfl, by kernel_rfl, rfl, rfl, by kernel_rfl⟩
/- probecard/compactors.Differs -/
def C13 : CC := (.seq (.reg [⟨(some 4), .box 32 (.tmp 0), none, [0]⟩,
    ⟨(some 8), .assign (.const (.slice none 0 0)), none, []⟩,
    ⟨(some 9), .assign (.const (.int .i64 0)), none, []⟩])
  (.seq (.seq (.reg [⟨(some 15), .load 32 (.tmp 4), none, []⟩,
    ⟨(some 16), .move (.tmp 3), none, []⟩,
    ⟨(some 17), .move (.tmp 1), none, []⟩,
    ⟨(some 18), .move (.tmp 2), none, []⟩,
    ⟨(some 19), .buildSlice 79 2 #[(0, (.tmp 17)), (1, (.tmp 18))], none, [17, 18]⟩,
    ⟨(some 20), .call ⟨.value (.func 23), #[(.tmp 15), (.tmp 16), (.tmp 19)], #[32, 26, 79]⟩, none, [15, 16, 19]⟩,
    ⟨(some 10), .assign (.tmp 20), none, [20]⟩])
  (.seq (.reg [⟨(some 21), .move (.tmp 10), none, []⟩,
    ⟨(some 22), .binOp .neq 36 (.tmp 21) (.const (.int .i64 0)) 36, none, [21]⟩])
  (.cond (.tmp 22) (.seq (.reg [⟨(some 23), .move (.tmp 10), none, []⟩,
    ⟨(some 8), .assign (.const (.slice none 0 0)), none, []⟩,
    ⟨(some 9), .assign (.tmp 23), none, [23]⟩])
  .ret)
  .skip)))
  (.seq (.reg [⟨(some 11), .assign (.const (.slice none 0 0)), none, []⟩])
  (.seq (.drw [⟨(some 24), .load 32 (.tmp 4), none, []⟩,
    ⟨(some 25), .move (.tmp 1), none, []⟩,
    ⟨(some 26), .move (.tmp 3), none, []⟩,
    ⟨(some 27), .call ⟨.value (.func 24), #[(.tmp 24), (.tmp 25), (.tmp 26)], #[32, 34, 26]⟩, none, [24, 25, 26]⟩,
    ⟨(some 28), .load 32 (.tmp 4), none, []⟩,
    ⟨(some 29), .move (.tmp 2), none, []⟩,
    ⟨(some 30), .move (.tmp 3), none, []⟩,
    ⟨(some 31), .call ⟨.value (.func 24), #[(.tmp 28), (.tmp 29), (.tmp 30)], #[32, 34, 26]⟩, none, [28, 29, 30]⟩,
    ⟨(some 12), .assign (.tmp 27), none, [27]⟩,
    ⟨(some 13), .assign (.tmp 31), none, [31]⟩] [0, 0, 0, 7, 0, 0, 0, 127, 255, 511])
  (.seq (.seq (.reg [⟨(some 32), .fieldAddr 32 (.tmp 4) 0, none, []⟩,
    ⟨(some 33), .load 3 (.tmp 32), none, [32]⟩,
    ⟨(some 34), .move (.const (.int .i64 0)), none, []⟩])
  (.block 0 (.loop (.seq (.reg [⟨(some 35), .binOp .lss 3 (.tmp 34) (.tmp 33) 3, none, []⟩])
  (.seq (.cond (.tmp 35) .skip
  (.exit 0))
  (.seq (.block 1 (.seq (.reg [⟨(some 36), .move (.tmp 34), none, []⟩,
    ⟨(some 14), .assign (.tmp 36), none, [36]⟩])
  (.seq (.drw [⟨(some 37), .move (.tmp 12), none, []⟩,
    ⟨(some 38), .move (.tmp 14), none, []⟩,
    ⟨(some 39), .indexAddr 34 (.tmp 37) (.tmp 38), none, [37, 38]⟩,
    ⟨(some 40), .load 44 (.tmp 39), none, [39]⟩,
    ⟨(some 41), .move (.tmp 13), none, []⟩,
    ⟨(some 42), .move (.tmp 14), none, []⟩,
    ⟨(some 43), .indexAddr 34 (.tmp 41) (.tmp 42), none, [41, 42]⟩,
    ⟨(some 44), .load 44 (.tmp 43), none, [43]⟩,
    ⟨(some 45), .binOp .add 44 (.tmp 40) (.tmp 44) 44, none, [40, 44]⟩,
    ⟨(some 46), .binOp .eql 44 (.tmp 45) (.const (.int .u8 1)) 44, none, [45]⟩] [0, 0, 3, 7, 0, 0, 48, 112, 255, 511])
  (.cond (.tmp 46) (.reg [⟨(some 47), .move (.tmp 11), none, []⟩,
    ⟨(some 48), .move (.tmp 14), none, []⟩,
    ⟨(some 49), .buildSlice 39 1 #[(0, (.tmp 48))], none, [48]⟩,
    ⟨(some 50), .call ⟨.builtin .append, #[(.tmp 47), (.tmp 49)], #[39, 39]⟩, none, [47, 49]⟩,
    ⟨(some 11), .assign (.tmp 50), none, [50]⟩])
  .skip))))
  (.reg [⟨(some 51), .binOp .add 3 (.tmp 34) (.const (.int .i64 1)) 3, none, []⟩,
    ⟨(some 34), .move (.tmp 51), none, [51]⟩])))))))
  (.seq (.reg [⟨(some 52), .move (.tmp 11), none, []⟩,
    ⟨(some 53), .call ⟨.value (.func 25), #[(.tmp 52)], #[39]⟩, none, [52]⟩,
    ⟨(some 8), .assign (.tmp 53), none, [53]⟩,
    ⟨(some 9), .assign (.const (.int .i64 0)), none, []⟩])
  .ret))))))
theorem s13 : Stripped Try.prog 13 54 [.tmp 8, .tmp 9] C13 := ⟨Try.f13, _, [[[0], [], []], [[], [], [], [], [17, 18], [15, 16, 19], [20]], [[], [21]], [[], [], [23]], [[]], [[], [], [], [24, 25, 26], [], [], [], [28, 29, 30], [27], [31]], [[], [32], []], [[]], [[], [36]], [[], [], [37, 38], [39], [], [], [41, 42], [43], [40, 44], [45]], [[], [], [48], [47, 49], [50]], [[], [51]], [[], [52], [53], []]], [], Try.func13, rfl, by kernel_rfl, rfl, rfl, by kernel_rfl⟩
/- probecard/compactors.Masks -/
def C14 : CC := (.seq (.reg [⟨(some 2), .assign (.const (.int .u64 0)), none, []⟩,
    ⟨(some 3), .assign (.const (.int .i64 0)), none, []⟩])
  (.seq (.seq (.reg [⟨(some 6), .move (.tmp 0), none, []⟩,
    ⟨(some 7), .call ⟨.builtin .len, #[(.tmp 6)], #[34]⟩, none, [6]⟩,
    ⟨(some 8), .binOp .gtr 3 (.tmp 7) (.const (.int .i64 64)) 3, none, [7]⟩])
  (.cond (.tmp 8) (.seq (.reg [⟨(some 2), .assign (.const (.int .u64 0)), none, []⟩,
    ⟨(some 3), .assign (.const (.int .i64 3)), none, []⟩])
  .ret)
  .skip))
  (.seq (.seq (.reg [⟨(some 9), .move (.tmp 0), none, []⟩,
    ⟨(some 10), .call ⟨.builtin .len, #[(.tmp 9)], #[34]⟩, none, []⟩,
    ⟨(some 11), .move (.const (.int .i64 0)), none, []⟩])
  (.block 0 (.loop (.seq (.reg [⟨(some 12), .binOp .lss 3 (.tmp 11) (.tmp 10) 3, none, []⟩])
  (.seq (.cond (.tmp 12) .skip
  (.exit 0))
  (.seq (.block 1 (.seq (.reg [⟨(some 13), .move (.tmp 11), none, []⟩,
    ⟨(some 14), .indexAddr 34 (.tmp 9) (.tmp 11), none, []⟩,
    ⟨(some 15), .load 44 (.tmp 14), none, [14]⟩,
    ⟨(some 4), .assign (.tmp 13), none, [13]⟩,
    ⟨(some 5), .assign (.tmp 15), none, [15]⟩])
  (.block 2 (.seq (.reg [⟨(some 17), .move (.tmp 5), none, []⟩,
    ⟨(some 18), .binOp .gtr 44 (.tmp 17) (.const (.int .u8 2)) 44, none, [17]⟩,
    ⟨(some 16), .assign (.tmp 18), none, [18]⟩])
  (.cond (.tmp 16) (.seq (.reg [⟨(some 2), .assign (.const (.int .u64 0)), none, []⟩,
    ⟨(some 3), .assign (.const (.int .i64 1)), none, []⟩])
  .ret)
  (.seq (.reg [⟨(some 20), .move (.tmp 5), none, []⟩,
    ⟨(some 21), .binOp .eql 44 (.tmp 20) (.const (.int .u8 2)) 44, none, [20]⟩,
    ⟨(some 19), .assign (.tmp 21), none, [21]⟩])
  (.cond (.tmp 19) (.reg [⟨(some 22), .move (.tmp 2), none, []⟩,
    ⟨(some 23), .move (.tmp 4), none, []⟩,
    ⟨(some 24), .binOp .shl 26 (.const (.int .u64 1)) (.tmp 23) 3, none, [23]⟩,
    ⟨(some 25), .binOp .or 26 (.tmp 22) (.tmp 24) 26, none, [22, 24]⟩,
    ⟨(some 2), .assign (.tmp 25), none, [25]⟩])
  .skip)))))))
  (.reg [⟨(some 26), .binOp .add 3 (.tmp 11) (.const (.int .i64 1)) 3, none, []⟩,
    ⟨(some 11), .move (.tmp 26), none, [26]⟩])))))))
  (.seq (.reg [⟨(some 27), .move (.tmp 2), none, []⟩,
    ⟨(some 2), .assign (.tmp 27), none, [27]⟩,
    ⟨(some 3), .assign (.const (.int .i64 0)), none, []⟩])
  .ret))))
theorem s14 : Stripped Try.prog 14 28 [.tmp 2, .tmp 3] C14 := ⟨Try.f14, _, [[[], []], [[], [6], [7]], [[], []], [[], [], []], [[]], [[], [], [14], [13], [15]], [[], [17], [18]], [[], []], [[], [20], [21]], [[], [], [23], [22, 24], [25]], [[], [26]], [[], [27], []]], [], Try.func14, rfl, by kernel_rfl, rfl, rfl, by kernel_rfl⟩
/- probecard/probecardlaw33.output -/
def C15 : CC := (.seq (.reg [⟨(some 4), .box 32 (.tmp 0), none, [0]⟩,
    ⟨(some 8), .assign (.const (.int .u8 0)), none, []⟩])
  (.seq (.reg [⟨(some 9), .assign (.const (.int .u8 0)), none, []⟩])
  (.seq (.seq (.reg [⟨(some 10), .assign (.const (.int .i64 0)), none, []⟩])
  (.block 0 (.loop (.seq (.seq (.reg [⟨(some 11), .move (.tmp 10), none, []⟩,
    ⟨(some 12), .move (.tmp 1), none, []⟩,
    ⟨(some 13), .call ⟨.builtin .len, #[(.tmp 12)], #[34]⟩, none, [12]⟩,
    ⟨(some 14), .binOp .lss 3 (.tmp 11) (.tmp 13) 3, none, [11, 13]⟩])
  (.cond (.tmp 14) .skip
  (.exit 0)))
  (.seq (.block 1 (.seq (.seq (.reg [⟨(some 17), .move (.tmp 2), none, []⟩,
    ⟨(some 18), .move (.tmp 10), none, []⟩,
    ⟨(some 19), .binOp .shr 26 (.tmp 17) (.tmp 18) 3, none, [17, 18]⟩,
    ⟨(some 20), .binOp .rem 26 (.tmp 19) (.const (.int .u64 2)) 26, none, [19]⟩,
    ⟨(some 21), .binOp .eql 26 (.tmp 20) (.const (.int .u64 1)) 26, none, [20]⟩,
    ⟨(some 22), .move (.tmp 21), none, [21]⟩,
    ⟨(some 23), .load 32 (.tmp 4), (some (22, false)), []⟩,
    ⟨(some 24), .move (.tmp 10), (some (22, false)), []⟩,
    ⟨(some 25), .move (.tmp 3), (some (22, false)), []⟩,
    ⟨(some 26), .call ⟨.value (.func 16), #[(.tmp 23), (.tmp 24), (.tmp 25)], #[32, 3, 3]⟩, (some (22, false)), [23, 24, 25]⟩,
    ⟨(some 27), .unOp .not 4 (.tmp 26), (some (22, false)), [26]⟩,
    ⟨(some 28), .pick (.tmp 22) (.const (.bool true)) (.tmp 27), none, [22, 27]⟩])
  (.cond (.tmp 28) (.exit 1)
  .skip))
  (.seq (.seq (.reg [⟨(some 29), .move (.tmp 1), none, []⟩,
    ⟨(some 30), .move (.tmp 10), none, []⟩,
    ⟨(some 31), .indexAddr 34 (.tmp 29) (.tmp 30), none, [29, 30]⟩,
    ⟨(some 32), .load 44 (.tmp 31), none, [31]⟩,
    ⟨(some 33), .binOp .eql 44 (.tmp 32) (.const (.int .u8 2)) 44, none, [32]⟩])
  (.cond (.tmp 33) (.seq (.reg [⟨(some 8), .assign (.const (.int .u8 2)), none, []⟩])
  .ret)
  .skip))
  (.seq (.reg [⟨(some 34), .move (.tmp 1), none, []⟩,
    ⟨(some 35), .move (.tmp 10), none, []⟩,
    ⟨(some 36), .indexAddr 34 (.tmp 34) (.tmp 35), none, [34, 35]⟩,
    ⟨(some 37), .load 44 (.tmp 36), none, [36]⟩,
    ⟨(some 38), .binOp .eql 44 (.tmp 37) (.const (.int .u8 1)) 44, none, [37]⟩])
  (.cond (.tmp 38) (.reg [⟨(some 39), .move (.tmp 9), none, []⟩,
    ⟨(some 40), .binOp .sub 44 (.const (.int .u8 1)) (.tmp 39) 44, none, [39]⟩,
    ⟨(some 9), .assign (.tmp 40), none, [40]⟩])
  .skip)))))
  (.reg [⟨(some 15), .move (.tmp 10), none, []⟩,
    ⟨(some 16), .binOp .add 3 (.tmp 15) (.const (.int .i64 1)) 3, none, [15]⟩,
    ⟨(some 10), .assign (.tmp 16), none, [16]⟩]))))))
  (.seq (.reg [⟨(some 41), .move (.tmp 9), none, []⟩,
    ⟨(some 8), .assign (.tmp 41), none, [41]⟩])
  .ret))))
theorem s15 : Stripped Try.prog 15 42 [.tmp 8] C15 := ⟨Try.f15, _, [[[0], []], [[]], [[]], [[], [], [12], [11, 13]], [[], [], [17, 18], [19], [20], [21], [], [], [], [23, 24, 25], [26], [22, 27]], [[], [], [29, 30], [31], [32]], [[]], [[], [], [34, 35], [36], [37]], [[], [39], [40]], [[], [15], [16]], [[], [41]]], [], Try.func15, rfl, by kernel_rfl, rfl, rfl, by kernel_rfl⟩
/- probecard/probecardlaw33.feeds -/
def C16 : CC := (.seq (.reg [⟨(some 3), .box 32 (.tmp 0), none, [0]⟩,
    ⟨(some 6), .assign (.const (.bool false)), none, []⟩])
  (.seq (.reg [⟨(some 7), .fieldAddr 32 (.tmp 3) 1, none, []⟩,
    ⟨(some 8), .load 30 (.tmp 7), none, [7]⟩,
    ⟨(some 9), .move (.tmp 1), none, [1]⟩,
    ⟨(some 10), .indexAddr 30 (.tmp 8) (.tmp 9), none, [8, 9]⟩,
    ⟨(some 11), .load 26 (.tmp 10), none, [10]⟩,
    ⟨(some 12), .move (.tmp 2), none, [2]⟩,
    ⟨(some 13), .binOp .shr 26 (.tmp 11) (.tmp 12) 3, none, [11, 12]⟩,
    ⟨(some 14), .binOp .rem 26 (.tmp 13) (.const (.int .u64 2)) 26, none, [13]⟩,
    ⟨(some 15), .binOp .eql 26 (.tmp 14) (.const (.int .u64 1)) 26, none, [14]⟩,
    ⟨(some 6), .assign (.tmp 15), none, [15]⟩])
  .ret))
theorem s16 : Stripped Try.prog 16 16 [.tmp 6] C16 := ⟨Try.f16, _, [[[0], []], [[], [7], [1], [8, 9], [10], [2], [11, 12], [13], [14], [15]]], [], Try.func16, rfl, by kernel_rfl, rfl, rfl, by kernel_rfl⟩
/- probecard/compactors.Tolerant -/
def C17 : CC := (.seq (.reg [⟨(some 3), .box 32 (.tmp 0), none, [0]⟩,
    ⟨(some 6), .assign (.const (.bool false)), none, []⟩,
    ⟨(some 7), .assign (.const (.int .i64 0)), none, []⟩])
  (.seq (.seq (.reg [⟨(some 12), .load 32 (.tmp 3), none, []⟩,
    ⟨(some 13), .call ⟨.value (.func 26), #[(.tmp 12)], #[32]⟩, none, [12]⟩,
    ⟨(some 8), .assign (.tmp 13), none, [13]⟩])
  (.seq (.reg [⟨(some 14), .move (.tmp 8), none, []⟩,
    ⟨(some 15), .binOp .neq 36 (.tmp 14) (.const (.int .i64 0)) 36, none, [14]⟩])
  (.cond (.tmp 15) (.seq (.reg [⟨(some 16), .move (.tmp 8), none, []⟩,
    ⟨(some 6), .assign (.const (.bool false)), none, []⟩,
    ⟨(some 7), .assign (.tmp 16), none, [16]⟩])
  .ret)
  .skip)))
  (.seq (.seq (.reg [⟨(some 17), .move (.tmp 1), none, []⟩,
    ⟨(some 18), .binOp .lss 3 (.tmp 17) (.const (.int .i64 0)) 3, none, [17]⟩,
    ⟨(some 19), .move (.tmp 18), none, [18]⟩,
    ⟨(some 20), .move (.tmp 1), (some (19, false)), []⟩,
    ⟨(some 21), .fieldAddr 32 (.tmp 3) 1, (some (19, false)), []⟩,
    ⟨(some 22), .load 30 (.tmp 21), (some (19, false)), [21]⟩,
    ⟨(some 23), .call ⟨.builtin .len, #[(.tmp 22)], #[30]⟩, (some (19, false)), [22]⟩,
    ⟨(some 24), .binOp .geq 3 (.tmp 20) (.tmp 23) 3, (some (19, false)), [20, 23]⟩,
    ⟨(some 25), .pick (.tmp 19) (.const (.bool true)) (.tmp 24), none, [19, 24]⟩,
    ⟨(some 26), .move (.tmp 25), none, [25]⟩,
    ⟨(some 27), .move (.tmp 2), (some (26, false)), []⟩,
    ⟨(some 28), .fieldAddr 32 (.tmp 3) 1, (some (26, false)), []⟩,
    ⟨(some 29), .load 30 (.tmp 28), (some (26, false)), [28]⟩,
    ⟨(some 30), .call ⟨.builtin .len, #[(.tmp 29)], #[30]⟩, (some (26, false)), [29]⟩,
    ⟨(some 31), .call ⟨.value (.func 27), #[(.tmp 27), (.tmp 30)], #[26, 3]⟩, (some (26, false)), [27, 30]⟩,
    ⟨(some 32), .pick (.tmp 26) (.const (.bool true)) (.tmp 31), none, [26, 31]⟩])
  (.cond (.tmp 32) (.seq (.reg [⟨(some 6), .assign (.const (.bool false)), none, []⟩,
    ⟨(some 7), .assign (.const (.int .i64 1)), none, []⟩])
  .ret)
  .skip))
  (.seq (.reg [⟨(some 33), .fieldAddr 32 (.tmp 3) 1, none, []⟩,
    ⟨(some 34), .load 30 (.tmp 33), none, [33]⟩,
    ⟨(some 35), .move (.tmp 1), none, []⟩,
    ⟨(some 36), .indexAddr 30 (.tmp 34) (.tmp 35), none, [34, 35]⟩,
    ⟨(some 37), .load 26 (.tmp 36), none, [36]⟩,
    ⟨(some 9), .assign (.tmp 37), none, [37]⟩])
  (.seq (.seq (.reg [⟨(some 38), .fieldAddr 32 (.tmp 3) 1, none, []⟩,
    ⟨(some 39), .load 30 (.tmp 38), none, [38]⟩,
    ⟨(some 40), .call ⟨.builtin .len, #[(.tmp 39)], #[30]⟩, none, []⟩,
    ⟨(some 41), .move (.const (.int .i64 0)), none, []⟩])
  (.block 0 (.loop (.seq (.reg [⟨(some 42), .binOp .lss 3 (.tmp 41) (.tmp 40) 3, none, []⟩])
  (.seq (.cond (.tmp 42) .skip
  (.exit 0))
  (.seq (.block 1 (.seq (.reg [⟨(some 43), .move (.tmp 41), none, []⟩,
    ⟨(some 44), .indexAddr 30 (.tmp 39) (.tmp 41), none, []⟩,
    ⟨(some 45), .load 26 (.tmp 44), none, [44]⟩,
    ⟨(some 10), .assign (.tmp 43), none, [43]⟩,
    ⟨(some 11), .assign (.tmp 45), none, [45]⟩])
  (.seq (.reg [⟨(some 46), .move (.tmp 2), none, []⟩,
    ⟨(some 47), .move (.tmp 10), none, []⟩,
    ⟨(some 48), .call ⟨.value (.func 28), #[(.tmp 46), (.tmp 47)], #[26, 3]⟩, none, [46, 47]⟩])
  (.cond (.tmp 48) (.reg [⟨(some 49), .move (.tmp 9), none, []⟩,
    ⟨(some 50), .move (.tmp 11), none, []⟩,
    ⟨(some 51), .binOp .andNot 26 (.tmp 49) (.tmp 50) 26, none, [49, 50]⟩,
    ⟨(some 9), .assign (.tmp 51), none, [51]⟩])
  .skip))))
  (.reg [⟨(some 52), .binOp .add 3 (.tmp 41) (.const (.int .i64 1)) 3, none, []⟩,
    ⟨(some 41), .move (.tmp 52), none, [52]⟩])))))))
  (.seq (.reg [⟨(some 53), .move (.tmp 9), none, []⟩,
    ⟨(some 54), .binOp .neq 26 (.tmp 53) (.const (.int .u64 0)) 26, none, [53]⟩,
    ⟨(some 6), .assign (.tmp 54), none, [54]⟩,
    ⟨(some 7), .assign (.const (.int .i64 0)), none, []⟩])
  .ret))))))
theorem s17 : Stripped Try.prog 17 55 [.tmp 6, .tmp 7] C17 := ⟨Try.f17, _, [[[0], [], []], [[], [12], [13]], [[], [14]], [[], [], [16]], [[], [17], [18], [], [], [21], [22], [20, 23], [19, 24], [25], [], [], [28], [29], [27, 30], [26, 31]], [[], []], [[], [33], [], [34, 35], [36], [37]], [[], [38], [], []], [[]], [[], [], [44], [43], [45]], [[], [], [46, 47]], [[], [], [49, 50], [51]], [[], [52]], [[], [53], [54], []]], [], Try.func17, rfl, by kernel_rfl, rfl, rfl, by kernel_rfl⟩
/- probecard/compactors.Locate -/
def C18 : CC := (.seq (.reg [⟨(some 2), .box 32 (.tmp 0), none, [0]⟩,
    ⟨(some 4), .assign (.const (.int .i64 0)), none, []⟩,
    ⟨(some 5), .assign (.const (.int .i64 0)), none, []⟩])
  (.seq (.seq (.reg [⟨(some 12), .load 32 (.tmp 2), none, []⟩,
    ⟨(some 13), .call ⟨.value (.func 26), #[(.tmp 12)], #[32]⟩, none, [12]⟩,
    ⟨(some 6), .assign (.tmp 13), none, [13]⟩])
  (.seq (.reg [⟨(some 14), .move (.tmp 6), none, []⟩,
    ⟨(some 15), .binOp .neq 36 (.tmp 14) (.const (.int .i64 0)) 36, none, [14]⟩])
  (.cond (.tmp 15) (.seq (.reg [⟨(some 16), .move (.tmp 6), none, []⟩,
    ⟨(some 4), .assign (.const (.int .i64 0)), none, []⟩,
    ⟨(some 5), .assign (.tmp 16), none, [16]⟩])
  .ret)
  .skip)))
  (.seq (.reg [⟨(some 7), .assign (.const (.int .u64 0)), none, []⟩,
    ⟨(some 8), .assign (.const (.int .i64 (-1))), none, []⟩])
  (.seq (.seq (.reg [⟨(some 17), .move (.tmp 1), none, [1]⟩,
    ⟨(some 18), .call ⟨.builtin .len, #[(.tmp 17)], #[39]⟩, none, []⟩,
    ⟨(some 19), .move (.const (.int .i64 0)), none, []⟩])
  (.block 0 (.loop (.seq (.reg [⟨(some 20), .binOp .lss 3 (.tmp 19) (.tmp 18) 3, none, []⟩])
  (.seq (.cond (.tmp 20) .skip
  (.exit 0))
  (.seq (.block 1 (.seq (.reg [⟨(some 21), .indexAddr 39 (.tmp 17) (.tmp 19), none, []⟩,
    ⟨(some 22), .load 3 (.tmp 21), none, [21]⟩,
    ⟨(some 10), .assign (.tmp 22), none, [22]⟩])
  (.seq (.seq (.reg [⟨(some 23), .move (.tmp 10), none, []⟩,
    ⟨(some 24), .move (.tmp 8), none, []⟩,
    ⟨(some 25), .binOp .leq 3 (.tmp 23) (.tmp 24) 3, none, [23, 24]⟩,
    ⟨(some 26), .move (.tmp 25), none, [25]⟩,
    ⟨(some 27), .move (.tmp 10), (some (26, false)), []⟩,
    ⟨(some 28), .fieldAddr 32 (.tmp 2) 0, (some (26, false)), []⟩,
    ⟨(some 29), .load 3 (.tmp 28), (some (26, false)), [28]⟩,
    ⟨(some 30), .binOp .geq 3 (.tmp 27) (.tmp 29) 3, (some (26, false)), [27, 29]⟩,
    ⟨(some 31), .pick (.tmp 26) (.const (.bool true)) (.tmp 30), none, [26, 30]⟩])
  (.cond (.tmp 31) (.seq (.reg [⟨(some 4), .assign (.const (.int .i64 0)), none, []⟩,
    ⟨(some 5), .assign (.const (.int .i64 1)), none, []⟩])
  .ret)
  .skip))
  (.seq (.reg [⟨(some 32), .move (.tmp 7), none, []⟩,
    ⟨(some 33), .move (.tmp 10), none, []⟩,
    ⟨(some 34), .binOp .shl 26 (.const (.int .u64 1)) (.tmp 33) 3, none, [33]⟩,
    ⟨(some 35), .binOp .or 26 (.tmp 32) (.tmp 34) 26, none, [32, 34]⟩,
    ⟨(some 7), .assign (.tmp 35), none, [35]⟩])
  (.reg [⟨(some 36), .move (.tmp 10), none, []⟩,
    ⟨(some 8), .assign (.tmp 36), none, [36]⟩])))))
  (.reg [⟨(some 37), .binOp .add 3 (.tmp 19) (.const (.int .i64 1)) 3, none, []⟩,
    ⟨(some 19), .move (.tmp 37), none, [37]⟩])))))))
  (.seq (.reg [⟨(some 38), .fieldAddr 32 (.tmp 2) 1, none, []⟩,
    ⟨(some 39), .load 30 (.tmp 38), none, [38]⟩,
    ⟨(some 40), .move (.tmp 7), none, []⟩,
    ⟨(some 41), .call ⟨.value (.func 29), #[(.tmp 39), (.tmp 40)], #[30, 26]⟩, none, [39, 40]⟩,
    ⟨(some 11), .assign (.tmp 41), none, [41]⟩])
  (.seq (.seq (.reg [⟨(some 42), .move (.tmp 11), none, []⟩,
    ⟨(some 43), .binOp .lss 3 (.tmp 42) (.const (.int .i64 0)) 3, none, [42]⟩,
    ⟨(some 44), .move (.tmp 43), none, [43]⟩,
    ⟨(some 45), .fieldAddr 32 (.tmp 2) 1, (some (44, false)), []⟩,
    ⟨(some 46), .load 30 (.tmp 45), (some (44, false)), [45]⟩,
    ⟨(some 47), .move (.tmp 11), (some (44, false)), []⟩,
    ⟨(some 48), .binOp .add 3 (.tmp 47) (.const (.int .i64 1)) 3, (some (44, false)), [47]⟩,
    ⟨(some 49), .slice 30 (.tmp 46) (some (.tmp 48)) none none, (some (44, false)), [46, 48]⟩,
    ⟨(some 50), .move (.tmp 7), (some (44, false)), []⟩,
    ⟨(some 51), .call ⟨.value (.func 30), #[(.tmp 49), (.tmp 50)], #[30, 26]⟩, (some (44, false)), [49, 50]⟩,
    ⟨(some 52), .pick (.tmp 44) (.const (.bool true)) (.tmp 51), none, [44, 51]⟩])
  (.cond (.tmp 52) (.seq (.reg [⟨(some 4), .assign (.const (.int .i64 0)), none, []⟩,
    ⟨(some 5), .assign (.const (.int .i64 9)), none, []⟩])
  .ret)
  .skip))
  (.seq (.reg [⟨(some 53), .move (.tmp 11), none, []⟩,
    ⟨(some 4), .assign (.tmp 53), none, [53]⟩,
    ⟨(some 5), .assign (.const (.int .i64 0)), none, []⟩])
  .ret)))))))
theorem s18 : Stripped Try.prog 18 54 [.tmp 4, .tmp 5] C18 := ⟨Try.f18, _, [[[0], [], []], [[], [12], [13]], [[], [14]], [[], [], [16]], [[], []], [[1], [], []], [[]], [[], [21], [22]], [[], [], [23, 24], [25], [], [], [28], [27, 29], [26, 30]], [[], []], [[], [], [33], [32, 34], [35]], [[], [36]], [[], [37]], [[], [38], [], [39, 40], [41]], [[], [42], [43], [], [45], [], [47], [46, 48], [], [49, 50], [44, 51]], [[], []], [[], [53], []]], [], Try.func18, rfl, by kernel_rfl, rfl, rfl, by kernel_rfl⟩
/- (probecard/probecardlaw32.L).Of -/
def C19 : CC := (.seq (.reg [⟨(some 1), .box 56 (.tmp 0), none, [0]⟩,
    ⟨(some 2), .alloc 59, none, []⟩])
  (.seq (.reg [⟨(some 4), .fieldAddr 56 (.tmp 1) 0, none, []⟩,
    ⟨(some 5), .load 5 (.tmp 4), none, [4]⟩,
    ⟨(some 6), .binOp .rem 5 (.tmp 5) (.const (.int .u8 16)) 5, none, [5]⟩,
    ⟨(some 7), .convert 5 3 (.tmp 6), none, [6]⟩,
    ⟨(some 8), .binOp .add 3 (.const (.int .i64 1)) (.tmp 7) 3, none, [7]⟩,
    ⟨(some 3), .assign (.tmp 8), none, [8]⟩])
  (.seq (.drw [⟨(some 9), .move (.tmp 3), none, []⟩,
    ⟨(some 10), .fieldAddr 56 (.tmp 1) 1, none, []⟩,
    ⟨(some 11), .load 26 (.tmp 10), none, [10]⟩,
    ⟨(some 12), .move (.tmp 3), none, []⟩,
    ⟨(some 13), .binOp .shl 26 (.const (.int .u64 1)) (.tmp 12) 3, none, [12]⟩,
    ⟨(some 14), .binOp .rem 26 (.tmp 11) (.tmp 13) 26, none, [11, 13]⟩,
    ⟨(some 15), .move (.tmp 3), none, []⟩,
    ⟨(some 16), .binOp .sub 3 (.tmp 15) (.const (.int .i64 1)) 3, none, [15]⟩,
    ⟨(some 17), .binOp .shl 26 (.const (.int .u64 1)) (.tmp 16) 3, none, [16]⟩,
    ⟨(some 18), .binOp .or 26 (.tmp 14) (.tmp 17) 26, none, [14, 17]⟩,
    ⟨(some 19), .build 59 #[(0, (.tmp 9)), (1, (.tmp 18))], none, [9, 18]⟩,
    ⟨none, .store 59 (.tmp 2) (.tmp 19), none, [19]⟩] [0, 0, 2, 0, 8, 30, 0, 64, 192, 510, 1023, 2047])
  .ret)))
theorem s19 : Stripped Try.prog 19 20 [.cell 2 59] C19 := ⟨Try.f19, _, [[[0], []], [[], [4], [5], [6], [7], [8]], [[], [], [10], [], [12], [11, 13], [], [15], [16], [14, 17], [9, 18], [19]]], [], Try.func19, rfl, by kernel_rfl, rfl, rfl, by kernel_rfl⟩
/- probecard/shifters.Step -/
def C20 : CC := (.seq (.reg [⟨(some 2), .box 59 (.tmp 0), none, [0]⟩,
    ⟨(some 4), .assign (.const (.int .u64 0)), none, []⟩,
    ⟨(some 5), .assign (.const (.int .i64 0)), none, []⟩])
  (.seq (.reg [⟨(some 9), .load 59 (.tmp 2), none, []⟩,
    ⟨(some 10), .move (.tmp 1), none, [1]⟩,
    ⟨(some 11), .call ⟨.value (.func 31), #[(.tmp 9), (.tmp 10)], #[59, 26]⟩, none, [9, 10]⟩,
    ⟨(some 8), .move (.tmp 11), none, [11]⟩,
    ⟨(some 12), .extract (.tmp 8) 0, none, []⟩,
    ⟨(some 13), .extract (.tmp 8) 1, none, [8]⟩,
    ⟨(some 6), .alloc 75, none, []⟩,
    ⟨none, .store 75 (.tmp 6) (.tmp 12), none, [12]⟩,
    ⟨(some 7), .assign (.tmp 13), none, [13]⟩])
  (.seq (.seq (.reg [⟨(some 14), .move (.tmp 7), none, []⟩,
    ⟨(some 15), .binOp .neq 36 (.tmp 14) (.const (.int .i64 0)) 36, none, [14]⟩])
  (.cond (.tmp 15) (.seq (.reg [⟨(some 16), .move (.tmp 7), none, []⟩,
    ⟨(some 4), .assign (.const (.int .u64 0)), none, []⟩,
    ⟨(some 5), .assign (.tmp 16), none, [16]⟩])
  .ret)
  .skip))
  (.seq (.reg [⟨(some 17), .call ⟨.value (.func 32), #[(.tmp 6)], #[75]⟩, none, [17]⟩])
  (.seq (.reg [⟨(some 18), .fieldAddr 75 (.tmp 6) 1, none, []⟩,
    ⟨(some 19), .load 26 (.tmp 18), none, [18]⟩,
    ⟨(some 4), .assign (.tmp 19), none, [19]⟩,
    ⟨(some 5), .assign (.const (.int .i64 0)), none, []⟩])
  .ret)))))
theorem s20 : Stripped Try.prog 20 20 [.tmp 4, .tmp 5] C20 := ⟨Try.f20, _, [[[0], [], []], [[], [1], [9, 10], [11], [], [8], [], [12], [13]], [[], [14]], [[], [], [16]], [[17]], [[], [18], [19], []]], [], Try.func20, rfl, by kernel_rfl, rfl, rfl, by kernel_rfl⟩
/- probecard/compactors.Sign -/
def C21 : CC := (.seq (.reg [⟨(some 3), .box 59 (.tmp 0), none, [0]⟩,
    ⟨(some 6), .assign (.const (.int .u64 0)), none, []⟩,
    ⟨(some 7), .assign (.const (.int .i64 0)), none, []⟩])
  (.seq (.seq (.reg [⟨(some 15), .load 59 (.tmp 3), none, []⟩,
    ⟨(some 16), .call ⟨.value (.func 33), #[(.tmp 15)], #[59]⟩, none, [15]⟩,
    ⟨(some 8), .assign (.tmp 16), none, [16]⟩])
  (.seq (.reg [⟨(some 17), .move (.tmp 8), none, []⟩,
    ⟨(some 18), .binOp .neq 36 (.tmp 17) (.const (.int .i64 0)) 36, none, [17]⟩])
  (.cond (.tmp 18) (.seq (.reg [⟨(some 19), .move (.tmp 8), none, []⟩,
    ⟨(some 6), .assign (.const (.int .u64 0)), none, []⟩,
    ⟨(some 7), .assign (.tmp 19), none, [19]⟩])
  .ret)
  .skip)))
  (.seq (.seq (.reg [⟨(some 20), .move (.tmp 1), none, []⟩,
    ⟨(some 21), .buildSlice 30 1 #[(0, (.tmp 20))], none, [20]⟩,
    ⟨(some 22), .move (.tmp 2), none, []⟩,
    ⟨(some 23), .call ⟨.builtin .append, #[(.tmp 21), (.tmp 22)], #[30, 30]⟩, none, [21, 22]⟩,
    ⟨(some 24), .call ⟨.builtin .len, #[(.tmp 23)], #[30]⟩, none, []⟩,
    ⟨(some 25), .move (.const (.int .i64 0)), none, []⟩])
  (.block 0 (.loop (.seq (.reg [⟨(some 26), .binOp .lss 3 (.tmp 25) (.tmp 24) 3, none, []⟩])
  (.seq (.cond (.tmp 26) .skip
  (.exit 0))
  (.seq (.block 1 (.seq (.reg [⟨(some 27), .indexAddr 30 (.tmp 23) (.tmp 25), none, []⟩,
    ⟨(some 28), .load 26 (.tmp 27), none, [27]⟩,
    ⟨(some 10), .assign (.tmp 28), none, [28]⟩])
  (.seq (.reg [⟨(some 29), .move (.tmp 10), none, []⟩,
    ⟨(some 30), .fieldAddr 59 (.tmp 3) 0, none, []⟩,
    ⟨(some 31), .load 3 (.tmp 30), none, [30]⟩,
    ⟨(some 32), .call ⟨.value (.func 27), #[(.tmp 29), (.tmp 31)], #[26, 3]⟩, none, [29, 31]⟩])
  (.cond (.tmp 32) (.seq (.reg [⟨(some 6), .assign (.const (.int .u64 0)), none, []⟩,
    ⟨(some 7), .assign (.const (.int .i64 1)), none, []⟩])
  .ret)
  .skip))))
  (.reg [⟨(some 33), .binOp .add 3 (.tmp 25) (.const (.int .i64 1)) 3, none, []⟩,
    ⟨(some 25), .move (.tmp 33), none, [33]⟩])))))))
  (.seq (.seq (.reg [⟨(some 34), .move (.tmp 2), none, []⟩,
    ⟨(some 35), .call ⟨.builtin .len, #[(.tmp 34)], #[30]⟩, none, []⟩,
    ⟨(some 36), .move (.const (.int .i64 0)), none, []⟩])
  (.block 2 (.loop (.seq (.reg [⟨(some 37), .binOp .lss 3 (.tmp 36) (.tmp 35) 3, none, []⟩])
  (.seq (.cond (.tmp 37) .skip
  (.exit 2))
  (.seq (.block 3 (.seq (.reg [⟨(some 38), .indexAddr 30 (.tmp 34) (.tmp 36), none, []⟩,
    ⟨(some 39), .load 26 (.tmp 38), none, [38]⟩,
    ⟨(some 12), .assign (.tmp 39), none, [39]⟩])
  (.seq (.reg [⟨(some 41), .load 59 (.tmp 3), none, []⟩,
    ⟨(some 42), .move (.tmp 1), none, []⟩,
    ⟨(some 43), .call ⟨.value (.func 20), #[(.tmp 41), (.tmp 42)], #[59, 26]⟩, none, [41, 42]⟩,
    ⟨(some 40), .move (.tmp 43), none, [43]⟩,
    ⟨(some 44), .extract (.tmp 40) 0, none, []⟩,
    ⟨(some 45), .extract (.tmp 40) 1, none, [40]⟩,
    ⟨(some 13), .assign (.tmp 44), none, [44]⟩,
    ⟨(some 14), .assign (.tmp 45), none, [45, 14]⟩])
  (.reg [⟨(some 46), .move (.tmp 13), none, []⟩,
    ⟨(some 47), .move (.tmp 12), none, []⟩,
    ⟨(some 48), .binOp .xor 26 (.tmp 46) (.tmp 47) 26, none, [46, 47]⟩,
    ⟨(some 1), .assign (.tmp 48), none, [48]⟩]))))
  (.reg [⟨(some 49), .binOp .add 3 (.tmp 36) (.const (.int .i64 1)) 3, none, []⟩,
    ⟨(some 36), .move (.tmp 49), none, [49]⟩])))))))
  (.seq (.reg [⟨(some 50), .move (.tmp 1), none, []⟩,
    ⟨(some 6), .assign (.tmp 50), none, [50]⟩,
    ⟨(some 7), .assign (.const (.int .i64 0)), none, []⟩])
  .ret)))))
theorem s21 : Stripped Try.prog 21 51 [.tmp 6, .tmp 7] C21 := ⟨Try.f21, _, [[[0], [], []], [[], [15], [16]], [[], [17]], [[], [], [19]], [[], [20], [], [21, 22], [], []], [[]], [[], [27], [28]], [[], [], [30], [29, 31]], [[], []], [[], [33]], [[], [], []], [[]], [[], [38], [39]], [[], [], [41, 42], [43], [], [40], [44], [45, 14]], [[], [], [46, 47], [48]], [[], [49]], [[], [50], []]], [], Try.func21, rfl, by kernel_rfl, rfl, rfl, by kernel_rfl⟩
/- probecard/probecardlaw33.CompactorsErrors -/
def C22 : CC := (.seq (.reg [⟨(some 2), .box 65 (.tmp 0), none, [0]⟩,
    ⟨(some 3), .box 28 (.tmp 1), none, [1]⟩,
    ⟨(some 4), .assign (.const (.bool false)), none, []⟩])
  (.seq (.seq (.reg [⟨(some 33), .fieldAddr 65 (.tmp 2) 1, none, []⟩,
    ⟨(some 34), .load 30 (.tmp 33), none, [33]⟩,
    ⟨(some 35), .call ⟨.builtin .len, #[(.tmp 34)], #[30]⟩, none, [34]⟩,
    ⟨(some 36), .binOp .gtr 3 (.tmp 35) (.const (.int .i64 70)) 3, none, [35]⟩,
    ⟨(some 37), .move (.tmp 36), none, [36]⟩,
    ⟨(some 38), .fieldAddr 28 (.tmp 3) 0, (some (37, false)), []⟩,
    ⟨(some 39), .load 25 (.tmp 38), (some (37, false)), [38]⟩,
    ⟨(some 40), .call ⟨.builtin .len, #[(.tmp 39)], #[25]⟩, (some (37, false)), [39]⟩,
    ⟨(some 41), .binOp .gtr 3 (.tmp 40) (.const (.int .i64 80)) 3, (some (37, false)), [40]⟩,
    ⟨(some 42), .pick (.tmp 37) (.const (.bool true)) (.tmp 41), none, [37, 41]⟩,
    ⟨(some 43), .move (.tmp 42), none, [42]⟩,
    ⟨(some 44), .fieldAddr 28 (.tmp 3) 1, (some (43, false)), []⟩,
    ⟨(some 45), .load 25 (.tmp 44), (some (43, false)), [44]⟩,
    ⟨(some 46), .call ⟨.builtin .len, #[(.tmp 45)], #[25]⟩, (some (43, false)), [45]⟩,
    ⟨(some 47), .binOp .gtr 3 (.tmp 46) (.const (.int .i64 80)) 3, (some (43, false)), [46]⟩,
    ⟨(some 48), .pick (.tmp 43) (.const (.bool true)) (.tmp 47), none, [43, 47]⟩,
    ⟨(some 49), .move (.tmp 48), none, [48]⟩,
    ⟨(some 50), .fieldAddr 65 (.tmp 2) 3, (some (49, false)), []⟩,
    ⟨(some 51), .load 39 (.tmp 50), (some (49, false)), [50]⟩,
    ⟨(some 52), .call ⟨.builtin .len, #[(.tmp 51)], #[39]⟩, (some (49, false)), [51]⟩,
    ⟨(some 53), .binOp .gtr 3 (.tmp 52) (.const (.int .i64 70)) 3, (some (49, false)), [52]⟩,
    ⟨(some 54), .pick (.tmp 49) (.const (.bool true)) (.tmp 53), none, [49, 53]⟩])
  (.cond (.tmp 54) (.seq (.reg [⟨(some 55), .call ⟨.value (.func 9), #[], #[]⟩, none, []⟩,
    ⟨(some 4), .assign (.tmp 55), none, [55]⟩])
  .ret)
  .skip))
  (.seq (.drw [⟨(some 56), .fieldAddr 65 (.tmp 2) 0, none, []⟩,
    ⟨(some 57), .load 3 (.tmp 56), none, [56]⟩,
    ⟨(some 58), .buildSlice 30 0 #[], none, []⟩,
    ⟨(some 59), .fieldAddr 65 (.tmp 2) 1, none, []⟩,
    ⟨(some 60), .load 30 (.tmp 59), none, [59]⟩,
    ⟨(some 61), .call ⟨.builtin .append, #[(.tmp 58), (.tmp 60)], #[30, 30]⟩, none, [58, 60]⟩,
    ⟨(some 62), .build 32 #[(0, (.tmp 57)), (1, (.tmp 61))], none, [57, 61]⟩,
    ⟨(some 5), .alloc 32, none, []⟩,
    ⟨none, .store 32 (.tmp 5) (.tmp 62), none, [62]⟩] [0, 1, 0, 0, 8, 28, 63, 0, 255])
  (.seq (.reg [⟨(some 63), .fieldAddr 65 (.tmp 2) 1, none, []⟩,
    ⟨(some 64), .load 30 (.tmp 63), none, [63]⟩,
    ⟨(some 65), .call ⟨.builtin .len, #[(.tmp 64)], #[30]⟩, none, [64]⟩,
    ⟨(some 6), .assign (.tmp 65), none, [65]⟩])
  (.seq (.reg [⟨(some 7), .assign (.const (.int .i64 0)), none, []⟩])
  (.seq (.block 0 (.seq (.reg [⟨(some 67), .fieldAddr 65 (.tmp 2) 0, none, []⟩,
    ⟨(some 68), .load 3 (.tmp 67), none, [67]⟩,
    ⟨(some 69), .binOp .lss 3 (.tmp 68) (.const (.int .i64 0)) 3, none, [68]⟩,
    ⟨(some 66), .assign (.tmp 69), none, [69]⟩])
  (.cond (.tmp 66) (.reg [⟨(some 7), .assign (.const (.int .i64 1)), none, []⟩])
  (.seq (.reg [⟨(some 71), .fieldAddr 65 (.tmp 2) 0, none, []⟩,
    ⟨(some 72), .load 3 (.tmp 71), none, [71]⟩,
    ⟨(some 73), .binOp .gtr 3 (.tmp 72) (.const (.int .i64 64)) 3, none, [72]⟩,
    ⟨(some 74), .move (.tmp 73), none, [73]⟩,
    ⟨(some 75), .move (.tmp 6), (some (74, false)), []⟩,
    ⟨(some 76), .binOp .gtr 3 (.tmp 75) (.const (.int .i64 64)) 3, (some (74, false)), [75]⟩,
    ⟨(some 77), .pick (.tmp 74) (.const (.bool true)) (.tmp 76), none, [74, 76]⟩,
    ⟨(some 70), .assign (.tmp 77), none, [77]⟩])
  (.cond (.tmp 70) (.reg [⟨(some 7), .assign (.const (.int .i64 3)), none, []⟩])
  .skip)))))
  (.seq (.seq (.reg [⟨(some 8), .assign (.const (.int .i64 0)), none, []⟩])
  (.block 1 (.loop (.seq (.seq (.reg [⟨(some 78), .move (.tmp 8), none, []⟩,
    ⟨(some 79), .move (.tmp 6), none, []⟩,
    ⟨(some 80), .binOp .lss 3 (.tmp 78) (.tmp 79) 3, none, [78, 79]⟩,
    ⟨(some 81), .move (.tmp 80), none, [80]⟩,
    ⟨(some 82), .move (.tmp 7), (some (81, true)), []⟩,
    ⟨(some 83), .binOp .eql 36 (.tmp 82) (.const (.int .i64 0)) 36, (some (81, true)), [82]⟩,
    ⟨(some 84), .pick (.tmp 81) (.tmp 83) (.const (.bool false)), none, [81, 83]⟩])
  (.cond (.tmp 84) .skip
  (.exit 1)))
  (.seq (.block 2 (.seq (.drw [⟨(some 87), .fieldAddr 65 (.tmp 2) 0, none, []⟩,
    ⟨(some 88), .load 3 (.tmp 87), none, [87]⟩,
    ⟨(some 89), .binOp .lss 3 (.tmp 88) (.const (.int .i64 64)) 3, none, [88]⟩,
    ⟨(some 90), .move (.tmp 89), none, [89]⟩,
    ⟨(some 91), .fieldAddr 65 (.tmp 2) 1, (some (90, true)), []⟩,
    ⟨(some 92), .load 30 (.tmp 91), (some (90, true)), [91]⟩,
    ⟨(some 93), .move (.tmp 8), (some (90, true)), []⟩,
    ⟨(some 94), .indexAddr 30 (.tmp 92) (.tmp 93), (some (90, true)), [92, 93]⟩,
    ⟨(some 95), .load 26 (.tmp 94), (some (90, true)), [94]⟩,
    ⟨(some 96), .fieldAddr 65 (.tmp 2) 0, (some (90, true)), []⟩,
    ⟨(some 97), .load 3 (.tmp 96), (some (90, true)), [96]⟩,
    ⟨(some 98), .binOp .shr 26 (.tmp 95) (.tmp 97) 3, (some (90, true)), [95, 97]⟩,
    ⟨(some 99), .binOp .gtr 26 (.tmp 98) (.const (.int .u64 0)) 26, (some (90, true)), [98]⟩,
    ⟨(some 100), .pick (.tmp 90) (.tmp 99) (.const (.bool false)), none, [90, 99]⟩] [0, 1, 3, 7, 15, 31, 15, 127, 255, 15, 527, 2047, 4095, 8191])
  (.cond (.tmp 100) (.reg [⟨(some 7), .assign (.const (.int .i64 1)), none, []⟩])
  .skip)))
  (.reg [⟨(some 85), .move (.tmp 8), none, []⟩,
    ⟨(some 86), .binOp .add 3 (.tmp 85) (.const (.int .i64 1)) 3, none, [85]⟩,
    ⟨(some 8), .assign (.tmp 86), none, [86]⟩]))))))
  (.seq (.reg [⟨(some 9), .assign (.const (.slice none 0 0)), none, []⟩,
    ⟨(some 10), .assign (.const (.slice none 0 0)), none, []⟩])
  (.seq (.reg [⟨(some 11), .assign (.const (.bool false)), none, []⟩,
    ⟨(some 12), .assign (.const (.bool false)), none, []⟩])
  (.seq (.reg [⟨(some 13), .assign (.const (.int .i64 0)), none, []⟩])
  (.seq (.seq (.reg [⟨(some 101), .fieldAddr 28 (.tmp 3) 0, none, []⟩,
    ⟨(some 102), .load 25 (.tmp 101), none, [101]⟩,
    ⟨(some 103), .call ⟨.builtin .len, #[(.tmp 102)], #[25]⟩, none, [102]⟩,
    ⟨(some 104), .binOp .gtr 3 (.tmp 103) (.const (.int .i64 64)) 3, none, [103]⟩])
  (.cond (.tmp 104) (.reg [⟨(some 13), .assign (.const (.int .i64 3)), none, []⟩])
  .skip))
  (.seq (.seq (.reg [⟨(some 14), .assign (.const (.int .i64 0)), none, []⟩])
  (.block 3 (.loop (.seq (.seq (.reg [⟨(some 105), .move (.tmp 14), none, []⟩,
    ⟨(some 106), .fieldAddr 28 (.tmp 3) 0, none, []⟩,
    ⟨(some 107), .load 25 (.tmp 106), none, [106]⟩,
    ⟨(some 108), .call ⟨.builtin .len, #[(.tmp 107)], #[25]⟩, none, [107]⟩,
    ⟨(some 109), .binOp .lss 3 (.tmp 105) (.tmp 108) 3, none, [105, 108]⟩])
  (.cond (.tmp 109) .skip
  (.exit 3)))
  (.seq (.block 4 (.seq (.reg [⟨(some 112), .move (.tmp 9), none, []⟩,
    ⟨(some 113), .fieldAddr 28 (.tmp 3) 0, none, []⟩,
    ⟨(some 114), .load 25 (.tmp 113), none, [113]⟩,
    ⟨(some 115), .move (.tmp 14), none, []⟩,
    ⟨(some 116), .indexAddr 25 (.tmp 114) (.tmp 115), none, [114, 115]⟩,
    ⟨(some 117), .load 5 (.tmp 116), none, [116]⟩,
    ⟨(some 118), .buildSlice 34 1 #[(0, (.tmp 117))], none, [117]⟩,
    ⟨(some 119), .call ⟨.builtin .append, #[(.tmp 112), (.tmp 118)], #[34, 34]⟩, none, [112, 118]⟩,
    ⟨(some 9), .assign (.tmp 119), none, [119]⟩])
  (.reg [⟨(some 120), .move (.tmp 11), none, []⟩,
    ⟨(some 121), .move (.tmp 120), none, [120]⟩,
    ⟨(some 122), .fieldAddr 28 (.tmp 3) 0, (some (121, false)), []⟩,
    ⟨(some 123), .load 25 (.tmp 122), (some (121, false)), [122]⟩,
    ⟨(some 124), .move (.tmp 14), (some (121, false)), []⟩,
    ⟨(some 125), .indexAddr 25 (.tmp 123) (.tmp 124), (some (121, false)), [123, 124]⟩,
    ⟨(some 126), .load 5 (.tmp 125), (some (121, false)), [125]⟩,
    ⟨(some 127), .binOp .gtr 5 (.tmp 126) (.const (.int .u8 2)) 5, (some (121, false)), [126]⟩,
    ⟨(some 128), .pick (.tmp 121) (.const (.bool true)) (.tmp 127), none, [121, 127]⟩,
    ⟨(some 11), .assign (.tmp 128), none, [128]⟩])))
  (.reg [⟨(some 110), .move (.tmp 14), none, []⟩,
    ⟨(some 111), .binOp .add 3 (.tmp 110) (.const (.int .i64 1)) 3, none, [110]⟩,
    ⟨(some 14), .assign (.tmp 111), none, [111]⟩]))))))
  (.seq (.seq (.reg [⟨(some 15), .assign (.const (.int .i64 0)), none, []⟩])
  (.block 5 (.loop (.seq (.seq (.reg [⟨(some 129), .move (.tmp 15), none, []⟩,
    ⟨(some 130), .fieldAddr 28 (.tmp 3) 1, none, []⟩,
    ⟨(some 131), .load 25 (.tmp 130), none, [130]⟩,
    ⟨(some 132), .call ⟨.builtin .len, #[(.tmp 131)], #[25]⟩, none, [131]⟩,
    ⟨(some 133), .binOp .lss 3 (.tmp 129) (.tmp 132) 3, none, [129, 132]⟩])
  (.cond (.tmp 133) .skip
  (.exit 5)))
  (.seq (.block 6 (.seq (.reg [⟨(some 136), .move (.tmp 10), none, []⟩,
    ⟨(some 137), .fieldAddr 28 (.tmp 3) 1, none, []⟩,
    ⟨(some 138), .load 25 (.tmp 137), none, [137]⟩,
    ⟨(some 139), .move (.tmp 15), none, []⟩,
    ⟨(some 140), .indexAddr 25 (.tmp 138) (.tmp 139), none, [138, 139]⟩,
    ⟨(some 141), .load 5 (.tmp 140), none, [140]⟩,
    ⟨(some 142), .buildSlice 34 1 #[(0, (.tmp 141))], none, [141]⟩,
    ⟨(some 143), .call ⟨.builtin .append, #[(.tmp 136), (.tmp 142)], #[34, 34]⟩, none, [136, 142]⟩,
    ⟨(some 10), .assign (.tmp 143), none, [143]⟩])
  (.reg [⟨(some 144), .move (.tmp 12), none, []⟩,
    ⟨(some 145), .move (.tmp 144), none, [144]⟩,
    ⟨(some 146), .fieldAddr 28 (.tmp 3) 1, (some (145, false)), []⟩,
    ⟨(some 147), .load 25 (.tmp 146), (some (145, false)), [146]⟩,
    ⟨(some 148), .move (.tmp 15), (some (145, false)), []⟩,
    ⟨(some 149), .indexAddr 25 (.tmp 147) (.tmp 148), (some (145, false)), [147, 148]⟩,
    ⟨(some 150), .load 5 (.tmp 149), (some (145, false)), [149]⟩,
    ⟨(some 151), .binOp .gtr 5 (.tmp 150) (.const (.int .u8 2)) 5, (some (145, false)), [150]⟩,
    ⟨(some 152), .pick (.tmp 145) (.const (.bool true)) (.tmp 151), none, [145, 151]⟩,
    ⟨(some 12), .assign (.tmp 152), none, [152]⟩])))
  (.reg [⟨(some 134), .move (.tmp 15), none, []⟩,
    ⟨(some 135), .binOp .add 3 (.tmp 134) (.const (.int .i64 1)) 3, none, [134]⟩,
    ⟨(some 15), .assign (.tmp 135), none, [135]⟩]))))))
  (.seq (.seq (.reg [⟨(some 153), .move (.tmp 13), none, []⟩,
    ⟨(some 154), .binOp .eql 36 (.tmp 153) (.const (.int .i64 0)) 36, none, [153]⟩,
    ⟨(some 155), .move (.tmp 154), none, [154]⟩,
    ⟨(some 156), .move (.tmp 11), (some (155, true)), []⟩,
    ⟨(some 157), .pick (.tmp 155) (.tmp 156) (.const (.bool false)), none, [155, 156]⟩])
  (.cond (.tmp 157) (.reg [⟨(some 13), .assign (.const (.int .i64 1)), none, []⟩])
  .skip))
  (.seq (.reg [⟨(some 158), .move (.tmp 6), none, []⟩,
    ⟨(some 159), .binOp .lss 3 (.tmp 158) (.const (.int .i64 64)) 3, none, [158]⟩,
    ⟨(some 160), .move (.tmp 159), none, [159]⟩,
    ⟨(some 161), .fieldAddr 28 (.tmp 3) 2, (some (160, true)), []⟩,
    ⟨(some 162), .load 26 (.tmp 161), (some (160, true)), [161]⟩,
    ⟨(some 163), .move (.tmp 6), (some (160, true)), []⟩,
    ⟨(some 164), .binOp .shr 26 (.tmp 162) (.tmp 163) 3, (some (160, true)), [162, 163]⟩,
    ⟨(some 165), .binOp .gtr 26 (.tmp 164) (.const (.int .u64 0)) 26, (some (160, true)), [164]⟩,
    ⟨(some 166), .pick (.tmp 160) (.tmp 165) (.const (.bool false)), none, [160, 165]⟩,
    ⟨(some 16), .assign (.tmp 166), none, [166]⟩])
  (.seq (.reg [⟨(some 167), .move (.tmp 7), none, []⟩,
    ⟨(some 168), .move (.tmp 7), none, []⟩,
    ⟨(some 169), .move (.tmp 7), none, []⟩,
    ⟨(some 170), .move (.tmp 7), none, []⟩,
    ⟨(some 17), .assign (.tmp 167), none, [167]⟩,
    ⟨(some 18), .assign (.tmp 168), none, [168]⟩,
    ⟨(some 19), .assign (.tmp 169), none, [169]⟩,
    ⟨(some 20), .assign (.tmp 170), none, [170]⟩])
  (.seq (.seq (.reg [⟨(some 171), .move (.tmp 17), none, []⟩,
    ⟨(some 172), .binOp .eql 36 (.tmp 171) (.const (.int .i64 0)) 36, none, [171]⟩,
    ⟨(some 173), .move (.tmp 172), none, [172]⟩,
    ⟨(some 174), .move (.tmp 9), (some (173, true)), []⟩,
    ⟨(some 175), .call ⟨.builtin .len, #[(.tmp 174)], #[34]⟩, (some (173, true)), [174]⟩,
    ⟨(some 176), .move (.tmp 6), (some (173, true)), []⟩,
    ⟨(some 177), .binOp .neq 3 (.tmp 175) (.tmp 176) 3, (some (173, true)), [175, 176]⟩,
    ⟨(some 178), .pick (.tmp 173) (.tmp 177) (.const (.bool false)), none, [173, 177]⟩])
  (.cond (.tmp 178) (.reg [⟨(some 17), .assign (.const (.int .i64 8)), none, []⟩])
  .skip))
  (.seq (.seq (.reg [⟨(some 179), .move (.tmp 17), none, []⟩,
    ⟨(some 180), .binOp .eql 36 (.tmp 179) (.const (.int .i64 0)) 36, none, [179]⟩,
    ⟨(some 181), .move (.tmp 180), none, [180]⟩,
    ⟨(some 182), .move (.tmp 11), (some (181, true)), []⟩,
    ⟨(some 183), .move (.tmp 182), (some (181, true)), [182]⟩,
    ⟨(some 184), .move (.tmp 16), (some (183, false)), []⟩,
    ⟨(some 185), .pick (.tmp 183) (.const (.bool true)) (.tmp 184), (some (181, true)), [183, 184]⟩,
    ⟨(some 186), .pick (.tmp 181) (.tmp 185) (.const (.bool false)), none, [181, 185]⟩])
  (.cond (.tmp 186) (.reg [⟨(some 17), .assign (.const (.int .i64 1)), none, []⟩])
  .skip))
  (.seq (.seq (.reg [⟨(some 187), .move (.tmp 18), none, []⟩,
    ⟨(some 188), .binOp .eql 36 (.tmp 187) (.const (.int .i64 0)) 36, none, [187]⟩,
    ⟨(some 189), .move (.tmp 188), none, [188]⟩,
    ⟨(some 190), .move (.tmp 9), (some (189, true)), []⟩,
    ⟨(some 191), .call ⟨.builtin .len, #[(.tmp 190)], #[34]⟩, (some (189, true)), [190]⟩,
    ⟨(some 192), .move (.tmp 6), (some (189, true)), []⟩,
    ⟨(some 193), .binOp .neq 3 (.tmp 191) (.tmp 192) 3, (some (189, true)), [191, 192]⟩,
    ⟨(some 194), .move (.tmp 193), (some (189, true)), [193]⟩,
    ⟨(some 195), .move (.tmp 10), (some (194, false)), []⟩,
    ⟨(some 196), .call ⟨.builtin .len, #[(.tmp 195)], #[34]⟩, (some (194, false)), [195]⟩,
    ⟨(some 197), .move (.tmp 6), (some (194, false)), []⟩,
    ⟨(some 198), .binOp .neq 3 (.tmp 196) (.tmp 197) 3, (some (194, false)), [196, 197]⟩,
    ⟨(some 199), .pick (.tmp 194) (.const (.bool true)) (.tmp 198), (some (189, true)), [194, 198]⟩,
    ⟨(some 200), .pick (.tmp 189) (.tmp 199) (.const (.bool false)), none, [189, 199]⟩])
  (.cond (.tmp 200) (.reg [⟨(some 18), .assign (.const (.int .i64 8)), none, []⟩])
  .skip))
  (.seq (.seq (.reg [⟨(some 201), .move (.tmp 18), none, []⟩,
    ⟨(some 202), .binOp .eql 36 (.tmp 201) (.const (.int .i64 0)) 36, none, [201]⟩,
    ⟨(some 203), .move (.tmp 202), none, [202]⟩,
    ⟨(some 204), .move (.tmp 11), (some (203, true)), []⟩,
    ⟨(some 205), .move (.tmp 204), (some (203, true)), [204]⟩,
    ⟨(some 206), .move (.tmp 12), (some (205, false)), []⟩,
    ⟨(some 207), .pick (.tmp 205) (.const (.bool true)) (.tmp 206), (some (203, true)), [205, 206]⟩,
    ⟨(some 208), .move (.tmp 207), (some (203, true)), [207]⟩,
    ⟨(some 209), .move (.tmp 16), (some (208, false)), []⟩,
    ⟨(some 210), .pick (.tmp 208) (.const (.bool true)) (.tmp 209), (some (203, true)), [208, 209]⟩,
    ⟨(some 211), .pick (.tmp 203) (.tmp 210) (.const (.bool false)), none, [203, 210]⟩])
  (.cond (.tmp 211) (.reg [⟨(some 18), .assign (.const (.int .i64 1)), none, []⟩])
  .skip))
  (.seq (.seq (.reg [⟨(some 212), .move (.tmp 19), none, []⟩,
    ⟨(some 213), .binOp .eql 36 (.tmp 212) (.const (.int .i64 0)) 36, none, [212]⟩,
    ⟨(some 214), .move (.tmp 213), none, [213]⟩,
    ⟨(some 215), .fieldAddr 65 (.tmp 2) 2, (some (214, true)), []⟩,
    ⟨(some 216), .load 3 (.tmp 215), (some (214, true)), [215]⟩,
    ⟨(some 217), .binOp .lss 3 (.tmp 216) (.const (.int .i64 0)) 3, (some (214, true)), [216]⟩,
    ⟨(some 218), .move (.tmp 217), (some (214, true)), [217]⟩,
    ⟨(some 219), .fieldAddr 65 (.tmp 2) 2, (some (218, false)), []⟩,
    ⟨(some 220), .load 3 (.tmp 219), (some (218, false)), [219]⟩,
    ⟨(some 221), .move (.tmp 6), (some (218, false)), []⟩,
    ⟨(some 222), .binOp .geq 3 (.tmp 220) (.tmp 221) 3, (some (218, false)), [220, 221]⟩,
    ⟨(some 223), .pick (.tmp 218) (.const (.bool true)) (.tmp 222), (some (214, true)), [218, 222]⟩,
    ⟨(some 224), .move (.tmp 223), (some (214, true)), [223]⟩,
    ⟨(some 225), .move (.tmp 16), (some (224, false)), []⟩,
    ⟨(some 226), .pick (.tmp 224) (.const (.bool true)) (.tmp 225), (some (214, true)), [224, 225]⟩,
    ⟨(some 227), .pick (.tmp 214) (.tmp 226) (.const (.bool false)), none, [214, 226]⟩])
  (.cond (.tmp 227) (.reg [⟨(some 19), .assign (.const (.int .i64 1)), none, []⟩])
  .skip))
  (.seq (.reg [⟨(some 21), .assign (.const (.int .i64 (-1))), none, []⟩])
  (.seq (.seq (.reg [⟨(some 22), .assign (.const (.int .i64 0)), none, []⟩])
  (.block 7 (.loop (.seq (.seq (.reg [⟨(some 228), .move (.tmp 22), none, []⟩,
    ⟨(some 229), .fieldAddr 65 (.tmp 2) 3, none, []⟩,
    ⟨(some 230), .load 39 (.tmp 229), none, [229]⟩,
    ⟨(some 231), .call ⟨.builtin .len, #[(.tmp 230)], #[39]⟩, none, [230]⟩,
    ⟨(some 232), .binOp .lss 3 (.tmp 228) (.tmp 231) 3, none, [228, 231]⟩,
    ⟨(some 233), .move (.tmp 232), none, [232]⟩,
    ⟨(some 234), .move (.tmp 20), (some (233, true)), []⟩,
    ⟨(some 235), .binOp .eql 36 (.tmp 234) (.const (.int .i64 0)) 36, (some (233, true)), [234]⟩,
    ⟨(some 236), .pick (.tmp 233) (.tmp 235) (.const (.bool false)), none, [233, 235]⟩])
  (.cond (.tmp 236) .skip
  (.exit 7)))
  (.seq (.block 8 (.seq (.seq (.drw [⟨(some 239), .fieldAddr 65 (.tmp 2) 3, none, []⟩,
    ⟨(some 240), .load 39 (.tmp 239), none, [239]⟩,
    ⟨(some 241), .move (.tmp 22), none, []⟩,
    ⟨(some 242), .indexAddr 39 (.tmp 240) (.tmp 241), none, [240, 241]⟩,
    ⟨(some 243), .load 3 (.tmp 242), none, [242]⟩,
    ⟨(some 244), .move (.tmp 21), none, []⟩,
    ⟨(some 245), .binOp .leq 3 (.tmp 243) (.tmp 244) 3, none, [243, 244]⟩,
    ⟨(some 246), .move (.tmp 245), none, [245]⟩,
    ⟨(some 247), .fieldAddr 65 (.tmp 2) 3, (some (246, false)), []⟩,
    ⟨(some 248), .load 39 (.tmp 247), (some (246, false)), [247]⟩,
    ⟨(some 249), .move (.tmp 22), (some (246, false)), []⟩,
    ⟨(some 250), .indexAddr 39 (.tmp 248) (.tmp 249), (some (246, false)), [248, 249]⟩,
    ⟨(some 251), .load 3 (.tmp 250), (some (246, false)), [250]⟩,
    ⟨(some 252), .fieldAddr 65 (.tmp 2) 0, (some (246, false)), []⟩,
    ⟨(some 253), .load 3 (.tmp 252), (some (246, false)), [252]⟩,
    ⟨(some 254), .binOp .geq 3 (.tmp 251) (.tmp 253) 3, (some (246, false)), [251, 253]⟩,
    ⟨(some 255), .pick (.tmp 246) (.const (.bool true)) (.tmp 254), none, [246, 254]⟩] [0, 1, 0, 7, 15, 0, 63, 127, 255, 511, 255, 2047, 4095, 255, 8447, 32767, 65535])
  (.cond (.tmp 255) (.reg [⟨(some 20), .assign (.const (.int .i64 1)), none, []⟩])
  .skip))
  (.reg [⟨(some 256), .fieldAddr 65 (.tmp 2) 3, none, []⟩,
    ⟨(some 257), .load 39 (.tmp 256), none, [256]⟩,
    ⟨(some 258), .move (.tmp 22), none, []⟩,
    ⟨(some 259), .indexAddr 39 (.tmp 257) (.tmp 258), none, [257, 258]⟩,
    ⟨(some 260), .load 3 (.tmp 259), none, [259]⟩,
    ⟨(some 21), .assign (.tmp 260), none, [260]⟩])))
  (.reg [⟨(some 237), .move (.tmp 22), none, []⟩,
    ⟨(some 238), .binOp .add 3 (.tmp 237) (.const (.int .i64 1)) 3, none, [237]⟩,
    ⟨(some 22), .assign (.tmp 238), none, [238]⟩]))))))
  (.seq (.reg [⟨(some 262), .load 32 (.tmp 5), none, []⟩,
    ⟨(some 263), .move (.tmp 9), none, []⟩,
    ⟨(some 264), .fieldAddr 28 (.tmp 3) 2, none, []⟩,
    ⟨(some 265), .load 26 (.tmp 264), none, [264]⟩,
    ⟨(some 266), .call ⟨.value (.func 12), #[(.tmp 262), (.tmp 263), (.tmp 265)], #[32, 34, 26]⟩, none, [262, 263, 265]⟩,
    ⟨(some 261), .move (.tmp 266), none, [266]⟩,
    ⟨(some 267), .extract (.tmp 261) 0, none, []⟩,
    ⟨(some 268), .extract (.tmp 261) 1, none, [261]⟩,
    ⟨(some 23), .assign (.tmp 267), none, [267]⟩,
    ⟨(some 24), .assign (.tmp 268), none, [268]⟩])
  (.seq (.reg [⟨(some 270), .load 32 (.tmp 5), none, []⟩,
    ⟨(some 271), .move (.tmp 9), none, []⟩,
    ⟨(some 272), .move (.tmp 10), none, []⟩,
    ⟨(some 273), .fieldAddr 28 (.tmp 3) 2, none, []⟩,
    ⟨(some 274), .load 26 (.tmp 273), none, [273]⟩,
    ⟨(some 275), .call ⟨.value (.func 13), #[(.tmp 270), (.tmp 271), (.tmp 272), (.tmp 274)], #[32, 34, 34, 26]⟩, none, [270, 271, 272, 274]⟩,
    ⟨(some 269), .move (.tmp 275), none, [275]⟩,
    ⟨(some 276), .extract (.tmp 269) 0, none, []⟩,
    ⟨(some 277), .extract (.tmp 269) 1, none, [269]⟩,
    ⟨(some 25), .assign (.tmp 276), none, [276]⟩,
    ⟨(some 26), .assign (.tmp 277), none, [277]⟩])
  (.seq (.reg [⟨(some 279), .move (.tmp 9), none, []⟩,
    ⟨(some 280), .call ⟨.value (.func 14), #[(.tmp 279)], #[34]⟩, none, [279]⟩,
    ⟨(some 278), .move (.tmp 280), none, [280]⟩,
    ⟨(some 281), .extract (.tmp 278) 0, none, []⟩,
    ⟨(some 282), .extract (.tmp 278) 1, none, [278]⟩,
    ⟨(some 27), .assign (.tmp 281), none, [281]⟩,
    ⟨(some 28), .assign (.tmp 282), none, [282]⟩])
  (.seq (.reg [⟨(some 284), .load 32 (.tmp 5), none, []⟩,
    ⟨(some 285), .fieldAddr 65 (.tmp 2) 2, none, []⟩,
    ⟨(some 286), .load 3 (.tmp 285), none, [285]⟩,
    ⟨(some 287), .fieldAddr 28 (.tmp 3) 2, none, []⟩,
    ⟨(some 288), .load 26 (.tmp 287), none, [287]⟩,
    ⟨(some 289), .call ⟨.value (.func 17), #[(.tmp 284), (.tmp 286), (.tmp 288)], #[32, 3, 26]⟩, none, [284, 286, 288]⟩,
    ⟨(some 283), .move (.tmp 289), none, [289]⟩,
    ⟨(some 290), .extract (.tmp 283) 0, none, []⟩,
    ⟨(some 291), .extract (.tmp 283) 1, none, [283]⟩,
    ⟨(some 29), .assign (.tmp 290), none, [290]⟩,
    ⟨(some 30), .assign (.tmp 291), none, [291]⟩])
  (.seq (.reg [⟨(some 293), .load 32 (.tmp 5), none, []⟩,
    ⟨(some 294), .fieldAddr 65 (.tmp 2) 3, none, []⟩,
    ⟨(some 295), .load 39 (.tmp 294), none, [294]⟩,
    ⟨(some 296), .call ⟨.value (.func 18), #[(.tmp 293), (.tmp 295)], #[32, 39]⟩, none, [293, 295]⟩,
    ⟨(some 292), .move (.tmp 296), none, [296]⟩,
    ⟨(some 297), .extract (.tmp 292) 0, none, []⟩,
    ⟨(some 298), .extract (.tmp 292) 1, none, [292]⟩,
    ⟨(some 31), .assign (.tmp 297), none, [297]⟩,
    ⟨(some 32), .assign (.tmp 298), none, [298]⟩])
  (.seq (.seq (.reg [⟨(some 299), .load 32 (.tmp 5), none, []⟩,
    ⟨(some 300), .call ⟨.value (.func 26), #[(.tmp 299)], #[32]⟩, none, [299]⟩,
    ⟨(some 301), .move (.tmp 7), none, []⟩,
    ⟨(some 302), .binOp .neq 36 (.tmp 300) (.tmp 301) 36, none, [300, 301]⟩,
    ⟨(some 303), .move (.tmp 302), none, [302]⟩,
    ⟨(some 304), .move (.tmp 24), (some (303, false)), []⟩,
    ⟨(some 305), .move (.tmp 17), (some (303, false)), []⟩,
    ⟨(some 306), .binOp .neq 36 (.tmp 304) (.tmp 305) 36, (some (303, false)), [304, 305]⟩,
    ⟨(some 307), .pick (.tmp 303) (.const (.bool true)) (.tmp 306), none, [303, 306]⟩,
    ⟨(some 308), .move (.tmp 307), none, [307]⟩,
    ⟨(some 309), .move (.tmp 26), (some (308, false)), []⟩,
    ⟨(some 310), .move (.tmp 18), (some (308, false)), []⟩,
    ⟨(some 311), .binOp .neq 36 (.tmp 309) (.tmp 310) 36, (some (308, false)), [309, 310]⟩,
    ⟨(some 312), .pick (.tmp 308) (.const (.bool true)) (.tmp 311), none, [308, 311]⟩,
    ⟨(some 313), .move (.tmp 312), none, [312]⟩,
    ⟨(some 314), .move (.tmp 28), (some (313, false)), []⟩,
    ⟨(some 315), .move (.tmp 13), (some (313, false)), []⟩,
    ⟨(some 316), .binOp .neq 36 (.tmp 314) (.tmp 315) 36, (some (313, false)), [314, 315]⟩,
    ⟨(some 317), .pick (.tmp 313) (.const (.bool true)) (.tmp 316), none, [313, 316]⟩,
    ⟨(some 318), .move (.tmp 317), none, [317]⟩,
    ⟨(some 319), .move (.tmp 30), (some (318, false)), []⟩,
    ⟨(some 320), .move (.tmp 19), (some (318, false)), []⟩,
    ⟨(some 321), .binOp .neq 36 (.tmp 319) (.tmp 320) 36, (some (318, false)), [319, 320]⟩,
    ⟨(some 322), .pick (.tmp 318) (.const (.bool true)) (.tmp 321), none, [318, 321]⟩,
    ⟨(some 323), .move (.tmp 322), none, [322]⟩,
    ⟨(some 324), .move (.tmp 32), (some (323, false)), []⟩,
    ⟨(some 325), .move (.tmp 20), (some (323, false)), []⟩,
    ⟨(some 326), .binOp .eql 36 (.tmp 324) (.tmp 325) 36, (some (323, false)), [324, 325]⟩,
    ⟨(some 327), .move (.tmp 326), (some (323, false)), [326]⟩,
    ⟨(some 328), .move (.tmp 20), (some (327, false)), []⟩,
    ⟨(some 329), .binOp .eql 36 (.tmp 328) (.const (.int .i64 0)) 36, (some (327, false)), [328]⟩,
    ⟨(some 330), .move (.tmp 329), (some (327, false)), [329]⟩,
    ⟨(some 331), .move (.tmp 32), (some (330, true)), []⟩,
    ⟨(some 332), .binOp .eql 36 (.tmp 331) (.const (.int .i64 9)) 36, (some (330, true)), [331]⟩,
    ⟨(some 333), .pick (.tmp 330) (.tmp 332) (.const (.bool false)), (some (327, false)), [330, 332]⟩,
    ⟨(some 334), .pick (.tmp 327) (.const (.bool true)) (.tmp 333), (some (323, false)), [327, 333]⟩,
    ⟨(some 335), .unOp .not 4 (.tmp 334), (some (323, false)), [334]⟩,
    ⟨(some 336), .pick (.tmp 323) (.const (.bool true)) (.tmp 335), none, [323, 335]⟩])
  (.cond (.tmp 336) (.seq (.reg [⟨(some 4), .assign (.const (.bool false)), none, []⟩])
  .ret)
  .skip))
  (.seq (.reg [⟨(some 337), .move (.tmp 24), none, []⟩,
    ⟨(some 338), .binOp .eql 36 (.tmp 337) (.const (.int .i64 0)) 36, none, [337]⟩,
    ⟨(some 339), .move (.tmp 338), none, [338]⟩,
    ⟨(some 340), .move (.tmp 23), (some (339, false)), []⟩,
    ⟨(some 341), .call ⟨.builtin .len, #[(.tmp 340)], #[34]⟩, (some (339, false)), [340]⟩,
    ⟨(some 342), .binOp .eql 3 (.tmp 341) (.const (.int .i64 0)) 3, (some (339, false)), [341]⟩,
    ⟨(some 343), .pick (.tmp 339) (.const (.bool true)) (.tmp 342), none, [339, 342]⟩,
    ⟨(some 344), .move (.tmp 343), none, [343]⟩,
    ⟨(some 345), .move (.tmp 26), (some (344, true)), []⟩,
    ⟨(some 346), .binOp .eql 36 (.tmp 345) (.const (.int .i64 0)) 36, (some (344, true)), [345]⟩,
    ⟨(some 347), .move (.tmp 346), (some (344, true)), [346]⟩,
    ⟨(some 348), .move (.tmp 25), (some (347, false)), []⟩,
    ⟨(some 349), .call ⟨.builtin .len, #[(.tmp 348)], #[39]⟩, (some (347, false)), [348]⟩,
    ⟨(some 350), .binOp .eql 3 (.tmp 349) (.const (.int .i64 0)) 3, (some (347, false)), [349]⟩,
    ⟨(some 351), .pick (.tmp 347) (.const (.bool true)) (.tmp 350), (some (344, true)), [347, 350]⟩,
    ⟨(some 352), .pick (.tmp 344) (.tmp 351) (.const (.bool false)), none, [344, 351]⟩,
    ⟨(some 353), .move (.tmp 352), none, [352]⟩,
    ⟨(some 354), .move (.tmp 28), (some (353, true)), []⟩,
    ⟨(some 355), .binOp .eql 36 (.tmp 354) (.const (.int .i64 0)) 36, (some (353, true)), [354]⟩,
    ⟨(some 356), .move (.tmp 355), (some (353, true)), [355]⟩,
    ⟨(some 357), .move (.tmp 27), (some (356, false)), []⟩,
    ⟨(some 358), .binOp .eql 26 (.tmp 357) (.const (.int .u64 0)) 26, (some (356, false)), [357]⟩,
    ⟨(some 359), .pick (.tmp 356) (.const (.bool true)) (.tmp 358), (some (353, true)), [356, 358]⟩,
    ⟨(some 360), .pick (.tmp 353) (.tmp 359) (.const (.bool false)), none, [353, 359]⟩,
    ⟨(some 361), .move (.tmp 360), none, [360]⟩,
    ⟨(some 362), .move (.tmp 30), (some (361, true)), []⟩,
    ⟨(some 363), .binOp .eql 36 (.tmp 362) (.const (.int .i64 0)) 36, (some (361, true)), [362]⟩,
    ⟨(some 364), .move (.tmp 363), (some (361, true)), [363]⟩,
    ⟨(some 365), .move (.tmp 29), (some (364, false)), []⟩,
    ⟨(some 366), .unOp .not 4 (.tmp 365), (some (364, false)), [365]⟩,
    ⟨(some 367), .pick (.tmp 364) (.const (.bool true)) (.tmp 366), (some (361, true)), [364, 366]⟩,
    ⟨(some 368), .pick (.tmp 361) (.tmp 367) (.const (.bool false)), none, [361, 367]⟩,
    ⟨(some 369), .move (.tmp 368), none, [368]⟩,
    ⟨(some 370), .move (.tmp 32), (some (369, true)), []⟩,
    ⟨(some 371), .binOp .eql 36 (.tmp 370) (.const (.int .i64 0)) 36, (some (369, true)), [370]⟩,
    ⟨(some 372), .move (.tmp 371), (some (369, true)), [371]⟩,
    ⟨(some 373), .move (.tmp 31), (some (372, false)), []⟩,
    ⟨(some 374), .binOp .eql 3 (.tmp 373) (.const (.int .i64 0)) 3, (some (372, false)), [373]⟩,
    ⟨(some 375), .pick (.tmp 372) (.const (.bool true)) (.tmp 374), (some (369, true)), [372, 374]⟩,
    ⟨(some 376), .pick (.tmp 369) (.tmp 375) (.const (.bool false)), none, [369, 375]⟩,
    ⟨(some 377), .move (.tmp 376), none, [376]⟩,
    ⟨(some 378), .call ⟨.value (.func 9), #[], #[]⟩, (some (377, true)), []⟩,
    ⟨(some 379), .pick (.tmp 377) (.tmp 378) (.const (.bool false)), none, [377, 378]⟩,
    ⟨(some 4), .assign (.tmp 379), none, [379]⟩])
  .ret))))))))))))))))))))))))))))))
theorem s22 : Stripped Try.prog 22 380 [.tmp 4] C22 := ⟨Try.f22, _, [[[0], [1], []], [[], [33], [34], [35], [36], [], [38], [39], [40], [37, 41], [42], [], [44], [45], [46], [43, 47], [48], [], [50], [51], [52], [49, 53]], [[], [55]], [[], [56], [], [], [59], [58, 60], [57, 61], [], [62]], [[], [63], [64], [65]], [[]], [[], [67], [68], [69]], [[]], [[], [71], [72], [73], [], [75], [74, 76], [77]], [[]], [[]], [[], [], [78, 79], [80], [], [82], [81, 83]], [[], [87], [88], [89], [], [91], [], [92, 93], [94], [], [96], [95, 97], [98], [90, 99]], [[]], [[], [85], [86]], [[], []], [[], []], [[]], [[], [101], [102], [103]], [[]], [[]], [[], [], [106], [107], [105, 108]], [[], [], [113], [], [114, 115], [116], [117], [112, 118], [119]], [[], [120], [], [122], [], [123, 124], [125], [126], [121, 127], [128]], [[], [110], [111]], [[]], [[], [], [130], [131], [129, 132]], [[], [], [137], [], [138, 139], [140], [141], [136, 142], [143]], [[], [144], [], [146], [], [147, 148], [149], [150], [145, 151], [152]], [[], [134], [135]], [[], [153], [154], [], [155, 156]], [[]], [[], [158], [159], [], [161], [], [162, 163], [164], [160, 165], [166]], [[], [], [], [], [167], [168], [169], [170]], [[], [171], [172], [], [174], [], [175, 176], [173, 177]], [[]], [[], [179], [180], [], [182], [], [183, 184], [181, 185]], [[]], [[], [187], [188], [], [190], [], [191, 192], [193], [], [195], [], [196, 197], [194, 198], [189, 199]], [[]], [[], [201], [202], [], [204], [], [205, 206], [207], [], [208, 209], [203, 210]], [[]], [[], [212], [213], [], [215], [216], [217], [], [219], [], [220, 221], [218, 222], [223], [], [224, 225], [214, 226]], [[]], [[]], [[]], [[], [], [229], [230], [228, 231], [232], [], [234], [233, 235]], [[], [239], [], [240, 241], [242], [], [243, 244], [245], [], [247], [], [248, 249], [250], [], [252], [251, 253], [246, 254]], [[]], [[], [256], [], [257, 258], [259], [260]], [[], [237], [238]], [[], [], [], [264], [262, 263, 265], [266], [], [261], [267], [268]], [[], [], [], [], [273], [270, 271, 272, 274], [275], [], [269], [276], [277]], [[], [279], [280], [], [278], [281], [282]], [[], [], [285], [], [287], [284, 286, 288], [289], [], [283], [290], [291]], [[], [], [294], [293, 295], [296], [], [292], [297], [298]], [[], [299], [], [300, 301], [302], [], [], [304, 305], [303, 306], [307], [], [], [309, 310], [308, 311], [312], [], [], [314, 315], [313, 316], [317], [], [], [319, 320], [318, 321], [322], [], [], [324, 325], [326], [], [328], [329], [], [331], [330, 332], [327, 333], [334], [323, 335]], [[]], [[], [337], [338], [], [340], [341], [339, 342], [343], [], [345], [346], [], [348], [349], [347, 350], [344, 351], [352], [], [354], [355], [], [357], [356, 358], [353, 359], [360], [], [362], [363], [], [365], [364, 366], [361, 367], [368], [], [370], [371], [], [373], [372, 374], [369, 375], [376], [], [377, 378], [379]]], [], Try.func22, rfl, by kernel_rfl, rfl, rfl, by kernel_rfl⟩
/- probecard/compactors.check -/
def C23 : CC := (.seq (.reg [⟨(some 3), .box 32 (.tmp 0), none, [0]⟩,
    ⟨(some 6), .assign (.const (.int .i64 0)), none, []⟩])
  (.seq (.seq (.reg [⟨(some 12), .load 32 (.tmp 3), none, []⟩,
    ⟨(some 13), .call ⟨.value (.func 26), #[(.tmp 12)], #[32]⟩, none, [12]⟩,
    ⟨(some 7), .assign (.tmp 13), none, [13]⟩])
  (.seq (.reg [⟨(some 14), .move (.tmp 7), none, []⟩,
    ⟨(some 15), .binOp .neq 36 (.tmp 14) (.const (.int .i64 0)) 36, none, [14]⟩])
  (.cond (.tmp 15) (.seq (.reg [⟨(some 16), .move (.tmp 7), none, []⟩,
    ⟨(some 6), .assign (.tmp 16), none, [16]⟩])
  .ret)
  .skip)))
  (.seq (.seq (.reg [⟨(some 17), .move (.tmp 2), none, []⟩,
    ⟨(some 18), .call ⟨.builtin .len, #[(.tmp 17)], #[79]⟩, none, []⟩,
    ⟨(some 19), .move (.const (.int .i64 0)), none, []⟩])
  (.block 0 (.loop (.seq (.reg [⟨(some 20), .binOp .lss 3 (.tmp 19) (.tmp 18) 3, none, []⟩])
  (.seq (.cond (.tmp 20) .skip
  (.exit 0))
  (.seq (.block 1 (.seq (.reg [⟨(some 21), .indexAddr 79 (.tmp 17) (.tmp 19), none, []⟩,
    ⟨(some 22), .load 34 (.tmp 21), none, [21]⟩,
    ⟨(some 9), .assign (.tmp 22), none, [22]⟩])
  (.seq (.reg [⟨(some 23), .move (.tmp 9), none, []⟩,
    ⟨(some 24), .call ⟨.builtin .len, #[(.tmp 23)], #[34]⟩, none, [23]⟩,
    ⟨(some 25), .fieldAddr 32 (.tmp 3) 1, none, []⟩,
    ⟨(some 26), .load 30 (.tmp 25), none, [25]⟩,
    ⟨(some 27), .call ⟨.builtin .len, #[(.tmp 26)], #[30]⟩, none, [26]⟩,
    ⟨(some 28), .binOp .neq 3 (.tmp 24) (.tmp 27) 3, none, [24, 27]⟩])
  (.cond (.tmp 28) (.seq (.reg [⟨(some 6), .assign (.const (.int .i64 8)), none, []⟩])
  .ret)
  .skip))))
  (.reg [⟨(some 29), .binOp .add 3 (.tmp 19) (.const (.int .i64 1)) 3, none, []⟩,
    ⟨(some 19), .move (.tmp 29), none, [29]⟩])))))))
  (.seq (.seq (.reg [⟨(some 30), .move (.tmp 2), none, []⟩,
    ⟨(some 31), .call ⟨.builtin .len, #[(.tmp 30)], #[79]⟩, none, []⟩,
    ⟨(some 32), .move (.const (.int .i64 0)), none, []⟩])
  (.block 2 (.loop (.seq (.reg [⟨(some 33), .binOp .lss 3 (.tmp 32) (.tmp 31) 3, none, []⟩])
  (.seq (.cond (.tmp 33) .skip
  (.exit 2))
  (.seq (.block 3 (.seq (.reg [⟨(some 34), .indexAddr 79 (.tmp 30) (.tmp 32), none, []⟩,
    ⟨(some 35), .load 34 (.tmp 34), none, [34]⟩,
    ⟨(some 11), .assign (.tmp 35), none, [35]⟩])
  (.seq (.reg [⟨(some 36), .move (.tmp 11), none, []⟩,
    ⟨(some 37), .call ⟨.value (.func 34), #[(.tmp 36), (.func 35)], #[34, 81]⟩, none, [36]⟩])
  (.cond (.tmp 37) (.seq (.reg [⟨(some 6), .assign (.const (.int .i64 1)), none, []⟩])
  .ret)
  .skip))))
  (.reg [⟨(some 38), .binOp .add 3 (.tmp 32) (.const (.int .i64 1)) 3, none, []⟩,
    ⟨(some 32), .move (.tmp 38), none, [38]⟩])))))))
  (.seq (.seq (.reg [⟨(some 39), .move (.tmp 1), none, [1]⟩,
    ⟨(some 40), .fieldAddr 32 (.tmp 3) 1, none, []⟩,
    ⟨(some 41), .load 30 (.tmp 40), none, [40]⟩,
    ⟨(some 42), .call ⟨.builtin .len, #[(.tmp 41)], #[30]⟩, none, [41]⟩,
    ⟨(some 43), .call ⟨.value (.func 27), #[(.tmp 39), (.tmp 42)], #[26, 3]⟩, none, [39, 42]⟩])
  (.cond (.tmp 43) (.seq (.reg [⟨(some 6), .assign (.const (.int .i64 1)), none, []⟩])
  .ret)
  .skip))
  (.seq (.reg [⟨(some 6), .assign (.const (.int .i64 0)), none, []⟩])
  .ret))))))
theorem s23 : Stripped Try.prog 23 44 [.tmp 6] C23 := ⟨Try.f23, _, [[[0], []], [[], [12], [13]], [[], [14]], [[], [16]], [[], [], []], [[]], [[], [21], [22]], [[], [23], [], [25], [26], [24, 27]], [[]], [[], [29]], [[], [], []], [[]], [[], [34], [35]], [[], [36]], [[]], [[], [38]], [[1], [], [40], [41], [39, 42]], [[]], [[]]], [], Try.func23, rfl, by kernel_rfl, rfl, rfl, by kernel_rfl⟩
/- probecard/compactors.compact -/
def C24 : CC := (.seq (.reg [⟨(some 3), .box 32 (.tmp 0), none, [0]⟩,
    ⟨(some 6), .assign (.const (.slice none 0 0)), none, []⟩])
  (.seq (.reg [⟨(some 11), .fieldAddr 32 (.tmp 3) 0, none, []⟩,
    ⟨(some 12), .load 3 (.tmp 11), none, [11]⟩,
    ⟨(some 13), .makeSlice 34 (.tmp 12) (.tmp 12), none, [12]⟩,
    ⟨(some 7), .assign (.tmp 13), none, [13]⟩])
  (.seq (.seq (.reg [⟨(some 14), .move (.tmp 1), none, [1]⟩,
    ⟨(some 15), .call ⟨.builtin .len, #[(.tmp 14)], #[34]⟩, none, []⟩,
    ⟨(some 16), .move (.const (.int .i64 0)), none, []⟩])
  (.block 0 (.loop (.seq (.reg [⟨(some 17), .binOp .lss 3 (.tmp 16) (.tmp 15) 3, none, []⟩])
  (.seq (.cond (.tmp 17) .skip
  (.exit 0))
  (.seq (.block 1 (.seq (.reg [⟨(some 18), .move (.tmp 16), none, []⟩,
    ⟨(some 19), .indexAddr 34 (.tmp 14) (.tmp 16), none, []⟩,
    ⟨(some 20), .load 44 (.tmp 19), none, [19]⟩,
    ⟨(some 8), .assign (.tmp 18), none, [18]⟩,
    ⟨(some 9), .assign (.tmp 20), none, [20]⟩])
  (.seq (.seq (.reg [⟨(some 21), .move (.tmp 2), none, []⟩,
    ⟨(some 22), .move (.tmp 8), none, []⟩,
    ⟨(some 23), .call ⟨.value (.func 28), #[(.tmp 21), (.tmp 22)], #[26, 3]⟩, none, [21, 22]⟩])
  (.cond (.tmp 23) (.exit 1)
  .skip))
  (.seq (.reg [⟨(some 24), .move (.tmp 7), none, []⟩,
    ⟨(some 25), .call ⟨.builtin .len, #[(.tmp 24)], #[34]⟩, none, [24]⟩,
    ⟨(some 26), .move (.const (.int .i64 0)), none, []⟩])
  (.block 2 (.loop (.seq (.reg [⟨(some 27), .binOp .lss 3 (.tmp 26) (.tmp 25) 3, none, []⟩])
  (.seq (.cond (.tmp 27) .skip
  (.exit 2))
  (.seq (.block 3 (.seq (.reg [⟨(some 28), .move (.tmp 26), none, []⟩,
    ⟨(some 10), .assign (.tmp 28), none, [28]⟩])
  (.block 4 (.seq (.reg [⟨(some 37), .fieldAddr 32 (.tmp 3) 1, none, []⟩,
    ⟨(some 38), .load 30 (.tmp 37), none, [37]⟩,
    ⟨(some 39), .move (.tmp 8), none, []⟩,
    ⟨(some 40), .indexAddr 30 (.tmp 38) (.tmp 39), none, [38, 39]⟩,
    ⟨(some 41), .load 26 (.tmp 40), none, [40]⟩,
    ⟨(some 42), .move (.tmp 10), none, []⟩,
    ⟨(some 43), .call ⟨.value (.func 28), #[(.tmp 41), (.tmp 42)], #[26, 3]⟩, none, [41, 42]⟩,
    ⟨(some 44), .unOp .not 4 (.tmp 43), none, [43]⟩,
    ⟨(some 45), .move (.tmp 44), none, [44]⟩,
    ⟨(some 46), .move (.tmp 7), (some (45, false)), []⟩,
    ⟨(some 47), .move (.tmp 10), (some (45, false)), []⟩,
    ⟨(some 48), .indexAddr 34 (.tmp 46) (.tmp 47), (some (45, false)), [46, 47]⟩,
    ⟨(some 49), .load 44 (.tmp 48), (some (45, false)), [48]⟩,
    ⟨(some 50), .binOp .eql 44 (.tmp 49) (.const (.int .u8 2)) 44, (some (45, false)), [49]⟩,
    ⟨(some 51), .pick (.tmp 45) (.const (.bool true)) (.tmp 50), none, [45, 50]⟩,
    ⟨(some 36), .assign (.tmp 51), none, [51]⟩])
  (.cond (.tmp 36) .skip
  (.seq (.reg [⟨(some 53), .move (.tmp 9), none, []⟩,
    ⟨(some 54), .binOp .eql 44 (.tmp 53) (.const (.int .u8 2)) 44, none, [53]⟩,
    ⟨(some 52), .assign (.tmp 54), none, [54]⟩])
  (.cond (.tmp 52) (.reg [⟨(some 55), .move (.tmp 7), none, []⟩,
    ⟨(some 56), .move (.tmp 10), none, []⟩,
    ⟨(some 57), .indexAddr 34 (.tmp 55) (.tmp 56), none, [55, 56]⟩,
    ⟨none, .store 44 (.tmp 57) (.const (.int .u8 2)), none, [57]⟩])
  (.reg [⟨(some 29), .move (.tmp 7), none, []⟩,
    ⟨(some 30), .move (.tmp 10), none, []⟩,
    ⟨(some 31), .indexAddr 34 (.tmp 29) (.tmp 30), none, []⟩,
    ⟨(some 32), .load 44 (.tmp 31), none, [31]⟩,
    ⟨(some 33), .move (.tmp 9), none, []⟩,
    ⟨(some 34), .binOp .xor 44 (.tmp 32) (.tmp 33) 44, none, [32, 33]⟩,
    ⟨(some 35), .indexAddr 34 (.tmp 29) (.tmp 30), none, [29, 30]⟩,
    ⟨none, .store 44 (.tmp 35) (.tmp 34), none, [34, 35]⟩]))))))))
  (.reg [⟨(some 58), .binOp .add 3 (.tmp 26) (.const (.int .i64 1)) 3, none, []⟩,
    ⟨(some 26), .move (.tmp 58), none, [58]⟩]))))))))))
  (.reg [⟨(some 59), .binOp .add 3 (.tmp 16) (.const (.int .i64 1)) 3, none, []⟩,
    ⟨(some 16), .move (.tmp 59), none, [59]⟩])))))))
  (.seq (.reg [⟨(some 60), .move (.tmp 7), none, []⟩,
    ⟨(some 6), .assign (.tmp 60), none, [60]⟩])
  .ret))))
theorem s24 : Stripped Try.prog 24 61 [.tmp 6] C24 := ⟨Try.f24, _, [[[0], []], [[], [11], [12], [13]], [[1], [], []], [[]], [[], [], [19], [18], [20]], [[], [], [21, 22]], [[], [24], []], [[]], [[], [28]], [[], [37], [], [38, 39], [40], [], [41, 42], [43], [44], [], [], [46, 47], [48], [49], [45, 50], [51]], [[], [53], [54]], [[], [], [55, 56], [57]], [[], [], [], [31], [], [32, 33], [29, 30], [34, 35]], [[], [58]], [[], [59]], [[], [60]]], [], Try.func24, rfl, by kernel_rfl, rfl, rfl, by kernel_rfl⟩
/- slices.Clip[[]int,int] -/
def C25 : CC := (.seq (.reg [⟨(some 2), .assign (.const (.slice none 0 0)), none, []⟩])
  (.seq (.reg [⟨(some 3), .move (.tmp 0), none, []⟩,
    ⟨(some 4), .move (.tmp 0), none, []⟩,
    ⟨(some 5), .call ⟨.builtin .len, #[(.tmp 4)], #[39]⟩, none, [4]⟩,
    ⟨(some 6), .move (.tmp 0), none, [0]⟩,
    ⟨(some 7), .call ⟨.builtin .len, #[(.tmp 6)], #[39]⟩, none, [6]⟩,
    ⟨(some 8), .slice 39 (.tmp 3) none (some (.tmp 5)) (some (.tmp 7)), none, [3, 5, 7]⟩,
    ⟨(some 2), .assign (.tmp 8), none, [8]⟩])
  .ret))
theorem s25 : Stripped Try.prog 25 9 [.tmp 2] C25 := ⟨Try.f25, _, [[[]], [[], [], [4], [0], [6], [3, 5, 7], [8]]], [], Try.func25, rfl, by kernel_rfl, rfl, rfl, by kernel_rfl⟩
/- probecard/compactors.Check -/
def C26 : CC := (.seq (.reg [⟨(some 1), .box 32 (.tmp 0), none, [0]⟩,
    ⟨(some 2), .assign (.const (.int .i64 0)), none, []⟩])
  (.seq (.block 0 (.seq (.reg [⟨(some 4), .fieldAddr 32 (.tmp 1) 0, none, []⟩,
    ⟨(some 5), .load 3 (.tmp 4), none, [4]⟩,
    ⟨(some 6), .binOp .lss 3 (.tmp 5) (.const (.int .i64 0)) 3, none, [5]⟩,
    ⟨(some 3), .assign (.tmp 6), none, [6]⟩])
  (.cond (.tmp 3) (.seq (.reg [⟨(some 2), .assign (.const (.int .i64 1)), none, []⟩])
  .ret)
  (.seq (.reg [⟨(some 8), .fieldAddr 32 (.tmp 1) 0, none, []⟩,
    ⟨(some 9), .load 3 (.tmp 8), none, [8]⟩,
    ⟨(some 10), .binOp .gtr 3 (.tmp 9) (.const (.int .i64 64)) 3, none, [9]⟩,
    ⟨(some 11), .move (.tmp 10), none, [10]⟩,
    ⟨(some 12), .fieldAddr 32 (.tmp 1) 1, (some (11, false)), []⟩,
    ⟨(some 13), .load 30 (.tmp 12), (some (11, false)), [12]⟩,
    ⟨(some 14), .call ⟨.builtin .len, #[(.tmp 13)], #[30]⟩, (some (11, false)), [13]⟩,
    ⟨(some 15), .binOp .gtr 3 (.tmp 14) (.const (.int .i64 64)) 3, (some (11, false)), [14]⟩,
    ⟨(some 16), .pick (.tmp 11) (.const (.bool true)) (.tmp 15), none, [11, 15]⟩,
    ⟨(some 7), .assign (.tmp 16), none, [16]⟩])
  (.cond (.tmp 7) (.seq (.reg [⟨(some 2), .assign (.const (.int .i64 3)), none, []⟩])
  .ret)
  (.seq (.reg [⟨(some 18), .fieldAddr 32 (.tmp 1) 1, none, []⟩,
    ⟨(some 19), .load 30 (.tmp 18), none, [18]⟩,
    ⟨(some 20), .makeFunc (.func 37) #[] #[(.tmp 1)], none, []⟩,
    ⟨(some 21), .call ⟨.value (.func 36), #[(.tmp 19), (.tmp 20)], #[30, 83]⟩, none, [19, 20]⟩,
    ⟨(some 17), .assign (.tmp 21), none, [21]⟩])
  (.cond (.tmp 17) (.seq (.reg [⟨(some 2), .assign (.const (.int .i64 1)), none, []⟩])
  .ret)
  .skip)))))))
  (.seq (.reg [⟨(some 2), .assign (.const (.int .i64 0)), none, []⟩])
  .ret)))
theorem s26 : Stripped Try.prog 26 22 [.tmp 2] C26 := ⟨Try.f26, _, [[[0], []], [[], [4], [5], [6]], [[]], [[], [8], [9], [10], [], [12], [13], [14], [11, 15], [16]], [[]], [[], [18], [], [19, 20], [21]], [[]], [[]]], [], Try.func26, rfl, by kernel_rfl, rfl, rfl, by kernel_rfl⟩
/- probecard/compactors.beyond -/
def C27 : CC := (.seq (.reg [⟨(some 4), .assign (.const (.bool false)), none, []⟩])
  (.seq (.reg [⟨(some 5), .move (.tmp 1), none, []⟩,
    ⟨(some 6), .binOp .lss 3 (.tmp 5) (.const (.int .i64 64)) 3, none, [5]⟩,
    ⟨(some 7), .move (.tmp 6), none, [6]⟩,
    ⟨(some 8), .move (.tmp 0), (some (7, true)), [0]⟩,
    ⟨(some 9), .move (.tmp 1), (some (7, true)), [1]⟩,
    ⟨(some 10), .binOp .shr 26 (.tmp 8) (.tmp 9) 3, (some (7, true)), [8, 9]⟩,
    ⟨(some 11), .binOp .neq 26 (.tmp 10) (.const (.int .u64 0)) 26, (some (7, true)), [10]⟩,
    ⟨(some 12), .pick (.tmp 7) (.tmp 11) (.const (.bool false)), none, [7, 11]⟩,
    ⟨(some 4), .assign (.tmp 12), none, [12]⟩])
  .ret))
theorem s27 : Stripped Try.prog 27 13 [.tmp 4] C27 := ⟨Try.f27, _, [[[]], [[], [5], [6], [0], [1], [8, 9], [10], [7, 11], [12]]], [], Try.func27, rfl, by kernel_rfl, rfl, rfl, by kernel_rfl⟩
/- probecard/compactors.has -/
def C28 : CC := (.seq (.reg [⟨(some 4), .assign (.const (.bool false)), none, []⟩])
  (.seq (.reg [⟨(some 5), .move (.tmp 0), none, [0]⟩,
    ⟨(some 6), .move (.tmp 1), none, [1]⟩,
    ⟨(some 7), .binOp .shr 26 (.tmp 5) (.tmp 6) 3, none, [5, 6]⟩,
    ⟨(some 8), .binOp .and 26 (.tmp 7) (.const (.int .u64 1)) 26, none, [7]⟩,
    ⟨(some 9), .binOp .eql 26 (.tmp 8) (.const (.int .u64 1)) 26, none, [8]⟩,
    ⟨(some 4), .assign (.tmp 9), none, [9]⟩])
  .ret))
theorem s28 : Stripped Try.prog 28 10 [.tmp 4] C28 := ⟨Try.f28, _, [[[]], [[0], [1], [5, 6], [7], [8], [9]]], [], Try.func28, rfl, by kernel_rfl, rfl, rfl, by kernel_rfl⟩
/- slices.Index[[]uint64,uint64] -/
def C29 : CC := (.seq (.reg [⟨(some 4), .assign (.const (.int .i64 0)), none, []⟩])
  (.seq (.seq (.reg [⟨(some 6), .move (.tmp 0), none, []⟩,
    ⟨(some 7), .call ⟨.builtin .len, #[(.tmp 6)], #[30]⟩, none, [6]⟩,
    ⟨(some 8), .move (.const (.int .i64 0)), none, []⟩])
  (.block 0 (.loop (.seq (.reg [⟨(some 9), .binOp .lss 3 (.tmp 8) (.tmp 7) 3, none, []⟩])
  (.seq (.cond (.tmp 9) .skip
  (.exit 0))
  (.seq (.block 1 (.seq (.reg [⟨(some 10), .move (.tmp 8), none, []⟩,
    ⟨(some 5), .assign (.tmp 10), none, [10]⟩])
  (.seq (.reg [⟨(some 11), .move (.tmp 1), none, []⟩,
    ⟨(some 12), .move (.tmp 0), none, []⟩,
    ⟨(some 13), .move (.tmp 5), none, []⟩,
    ⟨(some 14), .indexAddr 30 (.tmp 12) (.tmp 13), none, [12, 13]⟩,
    ⟨(some 15), .load 26 (.tmp 14), none, [14]⟩,
    ⟨(some 16), .binOp .eql 26 (.tmp 11) (.tmp 15) 26, none, [11, 15]⟩])
  (.cond (.tmp 16) (.seq (.reg [⟨(some 17), .move (.tmp 5), none, []⟩,
    ⟨(some 4), .assign (.tmp 17), none, [17]⟩])
  .ret)
  .skip))))
  (.reg [⟨(some 18), .binOp .add 3 (.tmp 8) (.const (.int .i64 1)) 3, none, []⟩,
    ⟨(some 8), .move (.tmp 18), none, [18]⟩])))))))
  (.seq (.reg [⟨(some 4), .assign (.const (.int .i64 (-1))), none, []⟩])
  .ret)))
theorem s29 : Stripped Try.prog 29 19 [.tmp 4] C29 := ⟨Try.f29, _, [[[]], [[], [6], []], [[]], [[], [10]], [[], [], [], [12, 13], [14], [11, 15]], [[], [17]], [[], [18]], [[]]], [], Try.func29, rfl, by kernel_rfl, rfl, rfl, by kernel_rfl⟩
/- slices.Contains[[]uint64,uint64] -/
def C30 : CC := (.seq (.reg [⟨(some 4), .assign (.const (.bool false)), none, []⟩])
  (.seq (.reg [⟨(some 5), .move (.tmp 0), none, [0]⟩,
    ⟨(some 6), .move (.tmp 1), none, [1]⟩,
    ⟨(some 7), .call ⟨.value (.func 29), #[(.tmp 5), (.tmp 6)], #[30, 26]⟩, none, [5, 6]⟩,
    ⟨(some 8), .binOp .geq 3 (.tmp 7) (.const (.int .i64 0)) 3, none, [7]⟩,
    ⟨(some 4), .assign (.tmp 8), none, [8]⟩])
  .ret))
theorem s30 : Stripped Try.prog 30 9 [.tmp 4] C30 := ⟨Try.f30, _, [[[]], [[0], [1], [5, 6], [7], [8]]], [], Try.func30, rfl, by kernel_rfl, rfl, rfl, by kernel_rfl⟩
/- probecard/shifters.begin -/
def C31 : CC := (.seq (.reg [⟨(some 2), .box 59 (.tmp 0), none, [0]⟩,
    ⟨(some 4), .alloc 75, none, []⟩,
    ⟨(some 5), .assign (.const (.int .i64 0)), none, []⟩])
  (.seq (.seq (.reg [⟨(some 7), .load 59 (.tmp 2), none, []⟩,
    ⟨(some 8), .call ⟨.value (.func 33), #[(.tmp 7)], #[59]⟩, none, [7]⟩,
    ⟨(some 6), .assign (.tmp 8), none, [8]⟩])
  (.seq (.reg [⟨(some 9), .move (.tmp 6), none, []⟩,
    ⟨(some 10), .binOp .neq 36 (.tmp 9) (.const (.int .i64 0)) 36, none, [9]⟩])
  (.cond (.tmp 10) (.seq (.reg [⟨(some 11), .build 75 #[], none, []⟩,
    ⟨(some 12), .move (.tmp 6), none, []⟩,
    ⟨none, .store 75 (.tmp 4) (.tmp 11), none, [11]⟩,
    ⟨(some 5), .assign (.tmp 12), none, [12]⟩])
  .ret)
  .skip)))
  (.seq (.seq (.reg [⟨(some 13), .move (.tmp 1), none, []⟩,
    ⟨(some 14), .fieldAddr 59 (.tmp 2) 0, none, []⟩,
    ⟨(some 15), .load 3 (.tmp 14), none, [14]⟩,
    ⟨(some 16), .call ⟨.value (.func 38), #[(.tmp 13), (.tmp 15)], #[26, 3]⟩, none, [13, 15]⟩])
  (.cond (.tmp 16) (.seq (.reg [⟨(some 17), .build 75 #[], none, []⟩,
    ⟨none, .store 75 (.tmp 4) (.tmp 17), none, [17]⟩,
    ⟨(some 5), .assign (.const (.int .i64 1)), none, []⟩])
  .ret)
  .skip))
  (.seq (.reg [⟨(some 18), .load 59 (.tmp 2), none, []⟩,
    ⟨(some 19), .move (.tmp 1), none, []⟩,
    ⟨(some 20), .build 75 #[(0, (.tmp 18)), (1, (.tmp 19))], none, [18, 19]⟩,
    ⟨none, .store 75 (.tmp 4) (.tmp 20), none, [20]⟩,
    ⟨(some 5), .assign (.const (.int .i64 0)), none, []⟩])
  .ret))))
theorem s31 : Stripped Try.prog 31 21 [.cell 4 75, .tmp 5] C31 := ⟨Try.f31, _, [[[0], [], []], [[], [7], [8]], [[], [9]], [[], [], [11], [12]], [[], [], [14], [13, 15]], [[], [17], []], [[], [], [18, 19], [20], []]], [], Try.func31, rfl, by kernel_rfl, rfl, rfl, by kernel_rfl⟩
/- (*probecard/shifters.machine).next -/
def C32 : CC := (.seq (.drw [⟨(some 2), .move (.tmp 0), none, []⟩,
    ⟨(some 3), .move (.tmp 0), none, []⟩,
    ⟨(some 4), .nilCheck (.tmp 3), none, [3]⟩,
    ⟨(some 5), .fieldAddr 75 (.tmp 4) 1, none, [4]⟩,
    ⟨(some 6), .load 26 (.tmp 5), none, [5]⟩,
    ⟨(some 7), .binOp .shl 26 (.tmp 6) (.const (.int .u64 1)) 85, none, [6]⟩,
    ⟨(some 8), .move (.tmp 0), none, []⟩,
    ⟨(some 9), .nilCheck (.tmp 8), none, [8]⟩,
    ⟨(some 10), .fieldAddr 75 (.tmp 9) 1, none, [9]⟩,
    ⟨(some 11), .load 26 (.tmp 10), none, [10]⟩,
    ⟨(some 12), .move (.tmp 0), none, []⟩,
    ⟨(some 13), .nilCheck (.tmp 12), none, [12]⟩,
    ⟨(some 14), .fieldAddr 75 (.tmp 13) 0, none, [13]⟩,
    ⟨(some 15), .fieldAddr 59 (.tmp 14) 1, none, [14]⟩,
    ⟨(some 16), .load 26 (.tmp 15), none, [15]⟩,
    ⟨(some 17), .binOp .and 26 (.tmp 11) (.tmp 16) 26, none, [11, 16]⟩,
    ⟨(some 18), .call ⟨.value (.func 39), #[(.tmp 17)], #[26]⟩, none, [17]⟩,
    ⟨(some 19), .binOp .or 26 (.tmp 7) (.tmp 18) 26, none, [7, 18]⟩,
    ⟨(some 20), .nilCheck (.tmp 2), none, [2]⟩,
    ⟨(some 21), .fieldAddr 75 (.tmp 20) 1, none, [20]⟩,
    ⟨none, .store 26 (.tmp 21) (.tmp 19), none, [19, 21]⟩] [0, 0, 2, 6, 14, 30, 0, 64, 192, 448, 0, 1024, 3072, 7168, 15360, 32704, 65472, 131070, 262143, 524287, 1048575])
  (.seq (.reg [⟨(some 22), .move (.tmp 0), none, []⟩,
    ⟨(some 23), .nilCheck (.tmp 22), none, [22]⟩,
    ⟨(some 24), .fieldAddr 75 (.tmp 23) 0, none, [23]⟩,
    ⟨(some 25), .fieldAddr 59 (.tmp 24) 0, none, [24]⟩,
    ⟨(some 26), .load 3 (.tmp 25), none, [25]⟩,
    ⟨(some 27), .binOp .lss 3 (.tmp 26) (.const (.int .i64 64)) 3, none, [26]⟩])
  (.cond (.tmp 27) (.drw [⟨(some 28), .move (.tmp 0), none, []⟩,
    ⟨(some 29), .nilCheck (.tmp 28), none, []⟩,
    ⟨(some 30), .fieldAddr 75 (.tmp 29) 1, none, [29]⟩,
    ⟨(some 31), .load 26 (.tmp 30), none, [30]⟩,
    ⟨(some 32), .move (.tmp 0), none, []⟩,
    ⟨(some 33), .nilCheck (.tmp 32), none, [32]⟩,
    ⟨(some 34), .fieldAddr 75 (.tmp 33) 0, none, [33]⟩,
    ⟨(some 35), .fieldAddr 59 (.tmp 34) 0, none, [34]⟩,
    ⟨(some 36), .load 3 (.tmp 35), none, [35]⟩,
    ⟨(some 37), .binOp .shl 26 (.const (.int .u64 1)) (.tmp 36) 3, none, [36]⟩,
    ⟨(some 38), .binOp .sub 26 (.tmp 37) (.const (.int .u64 1)) 26, none, [37]⟩,
    ⟨(some 39), .binOp .and 26 (.tmp 31) (.tmp 38) 26, none, [31, 38]⟩,
    ⟨(some 40), .nilCheck (.tmp 28), none, [28]⟩,
    ⟨(some 41), .fieldAddr 75 (.tmp 40) 1, none, [40]⟩,
    ⟨none, .store 26 (.tmp 41) (.tmp 39), none, [39, 41]⟩] [0, 1, 3, 7, 0, 16, 48, 112, 240, 496, 1008, 2047, 4095, 8191, 16383])
  .skip)))
theorem s32 : Stripped Try.prog 32 42 [] C32 := ⟨Try.f32, _, [[[], [], [3], [4], [5], [6], [], [8], [9], [10], [], [12], [13], [14], [15], [11, 16], [17], [7, 18], [2], [20], [19, 21]], [[], [22], [23], [24], [25], [26]], [[], [], [29], [30], [], [32], [33], [34], [35], [36], [37], [31, 38], [28], [40], [39, 41]]], [], Try.func32, rfl, by kernel_rfl, rfl, rfl, by kernel_rfl⟩
/- probecard/shifters.Check -/
def C33 : CC := (.seq (.reg [⟨(some 1), .box 59 (.tmp 0), none, [0]⟩,
    ⟨(some 2), .assign (.const (.int .i64 0)), none, []⟩])
  (.seq (.block 0 (.seq (.reg [⟨(some 4), .fieldAddr 59 (.tmp 1) 0, none, []⟩,
    ⟨(some 5), .load 3 (.tmp 4), none, [4]⟩,
    ⟨(some 6), .binOp .lss 3 (.tmp 5) (.const (.int .i64 1)) 3, none, [5]⟩,
    ⟨(some 3), .assign (.tmp 6), none, [6]⟩])
  (.cond (.tmp 3) (.seq (.reg [⟨(some 2), .assign (.const (.int .i64 1)), none, []⟩])
  .ret)
  (.seq (.reg [⟨(some 8), .fieldAddr 59 (.tmp 1) 0, none, []⟩,
    ⟨(some 9), .load 3 (.tmp 8), none, [8]⟩,
    ⟨(some 10), .binOp .gtr 3 (.tmp 9) (.const (.int .i64 64)) 3, none, [9]⟩,
    ⟨(some 7), .assign (.tmp 10), none, [10]⟩])
  (.cond (.tmp 7) (.seq (.reg [⟨(some 2), .assign (.const (.int .i64 3)), none, []⟩])
  .ret)
  (.seq (.reg [⟨(some 12), .fieldAddr 59 (.tmp 1) 1, none, []⟩,
    ⟨(some 13), .load 26 (.tmp 12), none, [12]⟩,
    ⟨(some 14), .fieldAddr 59 (.tmp 1) 0, none, []⟩,
    ⟨(some 15), .load 3 (.tmp 14), none, [14]⟩,
    ⟨(some 16), .call ⟨.value (.func 38), #[(.tmp 13), (.tmp 15)], #[26, 3]⟩, none, [13, 15]⟩,
    ⟨(some 17), .move (.tmp 16), none, [16]⟩,
    ⟨(some 18), .fieldAddr 59 (.tmp 1) 1, (some (17, false)), []⟩,
    ⟨(some 19), .load 26 (.tmp 18), (some (17, false)), [18]⟩,
    ⟨(some 20), .fieldAddr 59 (.tmp 1) 0, (some (17, false)), []⟩,
    ⟨(some 21), .load 3 (.tmp 20), (some (17, false)), [20]⟩,
    ⟨(some 22), .binOp .sub 3 (.tmp 21) (.const (.int .i64 1)) 3, (some (17, false)), [21]⟩,
    ⟨(some 23), .binOp .shr 26 (.tmp 19) (.tmp 22) 3, (some (17, false)), [19, 22]⟩,
    ⟨(some 24), .binOp .eql 26 (.tmp 23) (.const (.int .u64 0)) 26, (some (17, false)), [23]⟩,
    ⟨(some 25), .pick (.tmp 17) (.const (.bool true)) (.tmp 24), none, [17, 24]⟩,
    ⟨(some 11), .assign (.tmp 25), none, [25]⟩])
  (.cond (.tmp 11) (.seq (.reg [⟨(some 2), .assign (.const (.int .i64 1)), none, []⟩])
  .ret)
  .skip)))))))
  (.seq (.reg [⟨(some 2), .assign (.const (.int .i64 0)), none, []⟩])
  .ret)))
theorem s33 : Stripped Try.prog 33 26 [.tmp 2] C33 := ⟨Try.f33, _, [[[0], []], [[], [4], [5], [6]], [[]], [[], [8], [9], [10]], [[]], [[], [12], [], [14], [13, 15], [16], [], [18], [], [20], [21], [19, 22], [23], [17, 24], [25]], [[]], [[]]], [], Try.func33, rfl, by kernel_rfl, rfl, rfl, by kernel_rfl⟩
/- slices.ContainsFunc[[]probecard/api.Value,probecard/api.Value] -/
def C34 : CC := (.seq (.reg [⟨(some 4), .assign (.const (.bool false)), none, []⟩])
  (.seq (.reg [⟨(some 5), .move (.tmp 0), none, [0]⟩,
    ⟨(some 6), .move (.tmp 1), none, [1]⟩,
    ⟨(some 7), .call ⟨.value (.func 40), #[(.tmp 5), (.tmp 6)], #[34, 81]⟩, none, [5, 6]⟩,
    ⟨(some 8), .binOp .geq 3 (.tmp 7) (.const (.int .i64 0)) 3, none, [7]⟩,
    ⟨(some 4), .assign (.tmp 8), none, [8]⟩])
  .ret))
theorem s34 : Stripped Try.prog 34 9 [.tmp 4] C34 := ⟨Try.f34, _, [[[]], [[0], [1], [5, 6], [7], [8]]], [], Try.func34, rfl, by kernel_rfl, rfl, rfl, by kernel_rfl⟩
/- probecard/compactors.check$1 -/
def C35 : CC := (.seq (.reg [⟨(some 2), .assign (.const (.bool false)), none, []⟩])
  (.seq (.reg [⟨(some 3), .move (.tmp 0), none, [0]⟩,
    ⟨(some 4), .binOp .gtr 44 (.tmp 3) (.const (.int .u8 2)) 44, none, [3]⟩,
    ⟨(some 2), .assign (.tmp 4), none, [4]⟩])
  .ret))
theorem s35 : Stripped Try.prog 35 5 [.tmp 2] C35 := ⟨Try.f35, _, [[[]], [[0], [3], [4]]], [], Try.func35, rfl, by kernel_rfl, rfl, rfl, by kernel_rfl⟩
/- slices.ContainsFunc[[]uint64,uint64] -/
def C36 : CC := (.seq (.reg [⟨(some 4), .assign (.const (.bool false)), none, []⟩])
  (.seq (.reg [⟨(some 5), .move (.tmp 0), none, [0]⟩,
    ⟨(some 6), .move (.tmp 1), none, [1]⟩,
    ⟨(some 7), .call ⟨.value (.func 41), #[(.tmp 5), (.tmp 6)], #[30, 83]⟩, none, [5, 6]⟩,
    ⟨(some 8), .binOp .geq 3 (.tmp 7) (.const (.int .i64 0)) 3, none, [7]⟩,
    ⟨(some 4), .assign (.tmp 8), none, [8]⟩])
  .ret))
theorem s36 : Stripped Try.prog 36 9 [.tmp 4] C36 := ⟨Try.f36, _, [[[]], [[0], [1], [5, 6], [7], [8]]], [], Try.func36, rfl, by kernel_rfl, rfl, rfl, by kernel_rfl⟩
/- probecard/compactors.Check$1 -/
def C37 : CC := (.seq (.reg [⟨(some 3), .assign (.const (.bool false)), none, []⟩])
  (.seq (.reg [⟨(some 4), .move (.tmp 0), none, [0]⟩,
    ⟨(some 5), .fieldAddr 32 (.tmp 1) 0, none, [1]⟩,
    ⟨(some 6), .load 3 (.tmp 5), none, [5]⟩,
    ⟨(some 7), .call ⟨.value (.func 27), #[(.tmp 4), (.tmp 6)], #[26, 3]⟩, none, [4, 6]⟩,
    ⟨(some 3), .assign (.tmp 7), none, [7]⟩])
  .ret))
theorem s37 : Stripped Try.prog 37 8 [.tmp 3] C37 := ⟨Try.f37, _, [[[]], [[0], [1], [5], [4, 6], [7]]], [], Try.func37, rfl, by kernel_rfl, rfl, rfl, by kernel_rfl⟩
/- probecard/shifters.wide -/
def C38 : CC := (.seq (.reg [⟨(some 4), .assign (.const (.bool false)), none, []⟩])
  (.seq (.reg [⟨(some 5), .move (.tmp 1), none, []⟩,
    ⟨(some 6), .binOp .lss 3 (.tmp 5) (.const (.int .i64 64)) 3, none, [5]⟩,
    ⟨(some 7), .move (.tmp 6), none, [6]⟩,
    ⟨(some 8), .move (.tmp 0), (some (7, true)), [0]⟩,
    ⟨(some 9), .move (.tmp 1), (some (7, true)), [1]⟩,
    ⟨(some 10), .binOp .shr 26 (.tmp 8) (.tmp 9) 3, (some (7, true)), [8, 9]⟩,
    ⟨(some 11), .binOp .neq 26 (.tmp 10) (.const (.int .u64 0)) 26, (some (7, true)), [10]⟩,
    ⟨(some 12), .pick (.tmp 7) (.tmp 11) (.const (.bool false)), none, [7, 11]⟩,
    ⟨(some 4), .assign (.tmp 12), none, [12]⟩])
  .ret))
theorem s38 : Stripped Try.prog 38 13 [.tmp 4] C38 := ⟨Try.f38, _, [[[]], [[], [5], [6], [0], [1], [8, 9], [10], [7, 11], [12]]], [], Try.func38, rfl, by kernel_rfl, rfl, rfl, by kernel_rfl⟩
/- probecard/shifters.parity -/
def C39 : CC := (.seq (.reg [⟨(some 2), .assign (.const (.int .u64 0)), none, []⟩])
  (.seq (.reg [⟨(some 3), .move (.tmp 0), none, [0]⟩,
    ⟨(some 4), .call ⟨.value (.func 42), #[(.tmp 3)], #[26]⟩, none, [3]⟩,
    ⟨(some 5), .binOp .rem 3 (.tmp 4) (.const (.int .i64 2)) 3, none, [4]⟩,
    ⟨(some 6), .convert 3 26 (.tmp 5), none, [5]⟩,
    ⟨(some 2), .assign (.tmp 6), none, [6]⟩])
  .ret))
theorem s39 : Stripped Try.prog 39 7 [.tmp 2] C39 := ⟨Try.f39, _, [[[]], [[0], [3], [4], [5], [6]]], [], Try.func39, rfl, by kernel_rfl, rfl, rfl, by kernel_rfl⟩
/- slices.IndexFunc[[]probecard/api.Value,probecard/api.Value] -/
def C40 : CC := (.seq (.reg [⟨(some 4), .assign (.const (.int .i64 0)), none, []⟩])
  (.seq (.seq (.reg [⟨(some 6), .move (.tmp 0), none, []⟩,
    ⟨(some 7), .call ⟨.builtin .len, #[(.tmp 6)], #[34]⟩, none, [6]⟩,
    ⟨(some 8), .move (.const (.int .i64 0)), none, []⟩])
  (.block 0 (.loop (.seq (.reg [⟨(some 9), .binOp .lss 3 (.tmp 8) (.tmp 7) 3, none, []⟩])
  (.seq (.cond (.tmp 9) .skip
  (.exit 0))
  (.seq (.block 1 (.seq (.reg [⟨(some 10), .move (.tmp 8), none, []⟩,
    ⟨(some 5), .assign (.tmp 10), none, [10]⟩])
  (.seq (.reg [⟨(some 11), .move (.tmp 1), none, []⟩,
    ⟨(some 12), .move (.tmp 0), none, []⟩,
    ⟨(some 13), .move (.tmp 5), none, []⟩,
    ⟨(some 14), .indexAddr 34 (.tmp 12) (.tmp 13), none, [12, 13]⟩,
    ⟨(some 15), .load 44 (.tmp 14), none, [14]⟩,
    ⟨(some 16), .call ⟨.value (.tmp 11), #[(.tmp 15)], #[44]⟩, none, [11, 15]⟩])
  (.cond (.tmp 16) (.seq (.reg [⟨(some 17), .move (.tmp 5), none, []⟩,
    ⟨(some 4), .assign (.tmp 17), none, [17]⟩])
  .ret)
  .skip))))
  (.reg [⟨(some 18), .binOp .add 3 (.tmp 8) (.const (.int .i64 1)) 3, none, []⟩,
    ⟨(some 8), .move (.tmp 18), none, [18]⟩])))))))
  (.seq (.reg [⟨(some 4), .assign (.const (.int .i64 (-1))), none, []⟩])
  .ret)))
theorem s40 : Stripped Try.prog 40 19 [.tmp 4] C40 := ⟨Try.f40, _, [[[]], [[], [6], []], [[]], [[], [10]], [[], [], [], [12, 13], [14], [11, 15]], [[], [17]], [[], [18]], [[]]], [], Try.func40, rfl, by kernel_rfl, rfl, rfl, by kernel_rfl⟩
/- slices.IndexFunc[[]uint64,uint64] -/
def C41 : CC := (.seq (.reg [⟨(some 4), .assign (.const (.int .i64 0)), none, []⟩])
  (.seq (.seq (.reg [⟨(some 6), .move (.tmp 0), none, []⟩,
    ⟨(some 7), .call ⟨.builtin .len, #[(.tmp 6)], #[30]⟩, none, [6]⟩,
    ⟨(some 8), .move (.const (.int .i64 0)), none, []⟩])
  (.block 0 (.loop (.seq (.reg [⟨(some 9), .binOp .lss 3 (.tmp 8) (.tmp 7) 3, none, []⟩])
  (.seq (.cond (.tmp 9) .skip
  (.exit 0))
  (.seq (.block 1 (.seq (.reg [⟨(some 10), .move (.tmp 8), none, []⟩,
    ⟨(some 5), .assign (.tmp 10), none, [10]⟩])
  (.seq (.reg [⟨(some 11), .move (.tmp 1), none, []⟩,
    ⟨(some 12), .move (.tmp 0), none, []⟩,
    ⟨(some 13), .move (.tmp 5), none, []⟩,
    ⟨(some 14), .indexAddr 30 (.tmp 12) (.tmp 13), none, [12, 13]⟩,
    ⟨(some 15), .load 26 (.tmp 14), none, [14]⟩,
    ⟨(some 16), .call ⟨.value (.tmp 11), #[(.tmp 15)], #[26]⟩, none, [11, 15]⟩])
  (.cond (.tmp 16) (.seq (.reg [⟨(some 17), .move (.tmp 5), none, []⟩,
    ⟨(some 4), .assign (.tmp 17), none, [17]⟩])
  .ret)
  .skip))))
  (.reg [⟨(some 18), .binOp .add 3 (.tmp 8) (.const (.int .i64 1)) 3, none, []⟩,
    ⟨(some 8), .move (.tmp 18), none, [18]⟩])))))))
  (.seq (.reg [⟨(some 4), .assign (.const (.int .i64 (-1))), none, []⟩])
  .ret)))
theorem s41 : Stripped Try.prog 41 19 [.tmp 4] C41 := ⟨Try.f41, _, [[[]], [[], [6], []], [[]], [[], [10]], [[], [], [], [12, 13], [14], [11, 15]], [[], [17]], [[], [18]], [[]]], [], Try.func41, rfl, by kernel_rfl, rfl, rfl, by kernel_rfl⟩
/- math/bits.OnesCount64 -/
def C42 : CC := (.seq (.reg [⟨(some 2), .assign (.const (.int .i64 0)), none, []⟩])
  (.seq (.reg [⟨(some 3), .move (.tmp 0), none, []⟩,
    ⟨(some 4), .binOp .shr 26 (.tmp 3) (.const (.int .u64 1)) 85, none, [3]⟩,
    ⟨(some 5), .binOp .and 26 (.tmp 4) (.const (.int .u64 6148914691236517205)) 26, none, [4]⟩,
    ⟨(some 6), .move (.tmp 0), none, []⟩,
    ⟨(some 7), .binOp .and 26 (.tmp 6) (.const (.int .u64 6148914691236517205)) 26, none, [6]⟩,
    ⟨(some 8), .binOp .add 26 (.tmp 5) (.tmp 7) 26, none, [5, 7]⟩,
    ⟨(some 0), .assign (.tmp 8), none, [8]⟩])
  (.seq (.reg [⟨(some 9), .move (.tmp 0), none, []⟩,
    ⟨(some 10), .binOp .shr 26 (.tmp 9) (.const (.int .u64 2)) 85, none, [9]⟩,
    ⟨(some 11), .binOp .and 26 (.tmp 10) (.const (.int .u64 3689348814741910323)) 26, none, [10]⟩,
    ⟨(some 12), .move (.tmp 0), none, []⟩,
    ⟨(some 13), .binOp .and 26 (.tmp 12) (.const (.int .u64 3689348814741910323)) 26, none, [12]⟩,
    ⟨(some 14), .binOp .add 26 (.tmp 11) (.tmp 13) 26, none, [11, 13]⟩,
    ⟨(some 0), .assign (.tmp 14), none, [14]⟩])
  (.seq (.reg [⟨(some 15), .move (.tmp 0), none, []⟩,
    ⟨(some 16), .binOp .shr 26 (.tmp 15) (.const (.int .u64 4)) 85, none, [15]⟩,
    ⟨(some 17), .move (.tmp 0), none, []⟩,
    ⟨(some 18), .binOp .add 26 (.tmp 16) (.tmp 17) 26, none, [16, 17]⟩,
    ⟨(some 19), .binOp .and 26 (.tmp 18) (.const (.int .u64 1085102592571150095)) 26, none, [18]⟩,
    ⟨(some 0), .assign (.tmp 19), none, [19]⟩])
  (.seq (.reg [⟨(some 20), .move (.tmp 0), none, []⟩,
    ⟨(some 21), .move (.tmp 0), none, []⟩,
    ⟨(some 22), .binOp .shr 26 (.tmp 21) (.const (.int .u64 8)) 85, none, [21]⟩,
    ⟨(some 23), .binOp .add 26 (.tmp 20) (.tmp 22) 26, none, [20, 22]⟩,
    ⟨(some 0), .assign (.tmp 23), none, [23]⟩])
  (.seq (.reg [⟨(some 24), .move (.tmp 0), none, []⟩,
    ⟨(some 25), .move (.tmp 0), none, []⟩,
    ⟨(some 26), .binOp .shr 26 (.tmp 25) (.const (.int .u64 16)) 85, none, [25]⟩,
    ⟨(some 27), .binOp .add 26 (.tmp 24) (.tmp 26) 26, none, [24, 26]⟩,
    ⟨(some 0), .assign (.tmp 27), none, [27]⟩])
  (.seq (.reg [⟨(some 28), .move (.tmp 0), none, []⟩,
    ⟨(some 29), .move (.tmp 0), none, []⟩,
    ⟨(some 30), .binOp .shr 26 (.tmp 29) (.const (.int .u64 32)) 85, none, [29]⟩,
    ⟨(some 31), .binOp .add 26 (.tmp 28) (.tmp 30) 26, none, [28, 30]⟩,
    ⟨(some 0), .assign (.tmp 31), none, [31]⟩])
  (.seq (.reg [⟨(some 32), .move (.tmp 0), none, []⟩,
    ⟨(some 33), .convert 26 3 (.tmp 32), none, [32]⟩,
    ⟨(some 34), .binOp .and 3 (.tmp 33) (.const (.int .i64 127)) 3, none, [33]⟩,
    ⟨(some 2), .assign (.tmp 34), none, [34]⟩])
  .ret))))))))
theorem s42 : Stripped Try.prog 42 35 [.tmp 2] C42 := ⟨Try.f42, _, [[[]], [[], [3], [4], [], [6], [5, 7], [8]], [[], [9], [10], [], [12], [11, 13], [14]], [[], [15], [], [16, 17], [18], [19]], [[], [], [21], [20, 22], [23]], [[], [], [25], [24, 26], [27]], [[], [], [29], [28, 30], [31]], [[], [32], [33], [34]]], [], Try.func42, rfl, by kernel_rfl, rfl, rfl, by kernel_rfl⟩
end Go.Proofs.Ytfcbahfdgopgfaa
