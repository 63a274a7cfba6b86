/-
  OWN WORK, written by my own program. The law's function in the value language, checked against the translation.
-/
import Derived.Test.YtjlidhijnohkbaaHl4
import Derived.Test.YtjlidhijnohkbaaProg
namespace Go.Proofs.Ytjlidhijnohkbaa
open Go.HL
set_option maxRecDepth 100000
set_option linter.unusedVariables false
def c8_1 : HCode :=
  .seq (.region none (⟨some 4, .mv 0 (.c (.bool false)), none⟩ ::
    []))
  (.ret)
def c8_2 : HCode :=
  .region none (⟨some 79, .mv 1 (.t 9), none⟩ ::
    ⟨some 80, .mv 1 (.t 5), none⟩ ::
    ⟨some 81, .mv 0 (.t 8), none⟩ ::
    ⟨some 82, .iaddr 1 (.t 80) (.t 81), none⟩ ::
    ⟨some 83, .load false 1 (.t 82), none⟩ ::
    ⟨some 84, .mv 0 (.t 10), none⟩ ::
    ⟨some 85, .iaddr 1 (.t 83) (.t 84), none⟩ ::
    ⟨some 86, .load false 1 (.t 85), none⟩ ::
    ⟨some 87, .bsl 1 1 [(.t 86)], none⟩ ::
    ⟨some 88, .app true 1 8 (.t 79) (.t 87), none⟩ ::
    ⟨some 9, .mv 1 (.t 88), none⟩ ::
    [])
def c8_3 : HCode :=
  .region none (⟨some 66, .mv 0 (.t 10), none⟩ ::
    ⟨some 67, .bin .add (.t 66) (.c (.int .i64 1)), none⟩ ::
    ⟨some 10, .mv 0 (.t 67), none⟩ ::
    [])
def c8_4 : HCode :=
  .seq (.block 3 (.seq (.region none (⟨some 68, .mv 1 (.t 6), none⟩ ::
      ⟨some 69, .mv 1 (.t 5), none⟩ ::
      ⟨some 70, .mv 0 (.t 8), none⟩ ::
      ⟨some 71, .iaddr 1 (.t 69) (.t 70), none⟩ ::
      ⟨some 72, .load false 1 (.t 71), none⟩ ::
      ⟨some 73, .mv 0 (.t 10), none⟩ ::
      ⟨some 74, .iaddr 1 (.t 72) (.t 73), none⟩ ::
      ⟨some 75, .load false 1 (.t 74), none⟩ ::
      ⟨some 76, .iaddr 1 (.t 68) (.t 75), none⟩ ::
      ⟨some 77, .load false 1 (.t 76), none⟩ ::
      ⟨some 78, .un .not (.t 77), none⟩ ::
      []))
    (.cond (.t 78) (c8_2) (.skip))))
  (c8_3)
def c8_5 : HCode :=
  .seq (.seq (.region none (⟨some 52, .mv 0 (.t 10), none⟩ ::
    ⟨some 53, .mv 1 (.t 5), none⟩ ::
    ⟨some 54, .mv 0 (.t 8), none⟩ ::
    ⟨some 55, .iaddr 1 (.t 53) (.t 54), none⟩ ::
    ⟨some 56, .load false 1 (.t 55), none⟩ ::
    ⟨some 57, .len (.t 56), none⟩ ::
    ⟨some 58, .bin .lss (.t 52) (.t 57), none⟩ ::
    ⟨some 59, .mv 0 (.t 58), none⟩ ::
    ⟨some 60, .mv 1 (.t 6), some (7, true)⟩ ::
    ⟨some 61, .mv 0 (.t 8), some (7, true)⟩ ::
    ⟨some 62, .iaddr 1 (.t 60) (.t 61), some (7, true)⟩ ::
    ⟨some 63, .load false 1 (.t 62), some (7, true)⟩ ::
    ⟨some 64, .un .not (.t 63), some (7, true)⟩ ::
    ⟨some 65, .pick (.t 59) (.t 64) (.c (.bool false)), none⟩ ::
    []))
  (.cond (.t 65) (.skip) (.exit 2)))
  (c8_4)
def c8_6 : HCode :=
  .region none (⟨some 89, .mv 1 (.t 7), none⟩ ::
    ⟨some 90, .mv 1 (.t 9), none⟩ ::
    ⟨some 91, .bsl 1 1 [(.t 90)], none⟩ ::
    ⟨some 92, .app false 1 24 (.t 89) (.t 91), none⟩ ::
    ⟨some 7, .mv 1 (.t 92), none⟩ ::
    [])
def c8_7 : HCode :=
  .seq (.seq (.region none (⟨some 10, .mv 0 (.c (.int .i64 0)), none⟩ ::
    []))
  (.block 2 (.loop (c8_5))))
  (c8_6)
def c8_8 : HCode :=
  .region none (⟨some 50, .mv 0 (.t 8), none⟩ ::
    ⟨some 51, .bin .add (.t 50) (.c (.int .i64 1)), none⟩ ::
    ⟨some 8, .mv 0 (.t 51), none⟩ ::
    [])
def c8_9 : HCode :=
  .seq (.block 1 (.seq (.region none (⟨some 9, .mv 1 (.c (.nils)), none⟩ ::
      []))
    (c8_7)))
  (c8_8)
def c8_10 : HCode :=
  .seq (.seq (.region none (⟨some 46, .mv 0 (.t 8), none⟩ ::
    ⟨some 47, .mv 1 (.t 5), none⟩ ::
    ⟨some 48, .len (.t 47), none⟩ ::
    ⟨some 49, .bin .lss (.t 46) (.t 48), none⟩ ::
    []))
  (.cond (.t 49) (.skip) (.exit 0)))
  (c8_9)
def c8_11 : HCode :=
  .seq (.region none (⟨some 4, .mv 0 (.c (.bool false)), none⟩ ::
    []))
  (.ret)
def c8_12 : HCode :=
  .region none (⟨some 110, .mv 0 (.t 14), none⟩ ::
    ⟨some 111, .bin .add (.t 110) (.c (.int .i64 1)), none⟩ ::
    ⟨some 14, .mv 0 (.t 111), none⟩ ::
    [])
def c8_13 : HCode :=
  .seq (.block 5 (.region none (⟨some 112, .mv 0 (.t 13), none⟩ ::
      ⟨some 113, .mv 0 (.t 112), none⟩ ::
      ⟨some 114, .mv 1 (.t 11), some (1, false)⟩ ::
      ⟨some 115, .mv 0 (.t 14), some (1, false)⟩ ::
      ⟨some 116, .iaddr 1 (.t 114) (.t 115), some (1, false)⟩ ::
      ⟨some 117, .load false 1 (.t 116), some (1, false)⟩ ::
      ⟨some 118, .bin .lss (.t 117) (.c (.int .i64 0)), some (1, false)⟩ ::
      ⟨some 119, .pick (.t 113) (.c (.bool true)) (.t 118), none⟩ ::
      ⟨some 13, .mv 0 (.t 119), none⟩ ::
      [])))
  (c8_12)
def c8_14 : HCode :=
  .seq (.seq (.region none (⟨some 106, .mv 0 (.t 14), none⟩ ::
    ⟨some 107, .mv 1 (.t 11), none⟩ ::
    ⟨some 108, .len (.t 107), none⟩ ::
    ⟨some 109, .bin .lss (.t 106) (.t 108), none⟩ ::
    []))
  (.cond (.t 109) (.skip) (.exit 4)))
  (c8_13)
def c8_15 : HCode :=
  .seq (.region none (⟨some 4, .mv 0 (.c (.bool false)), none⟩ ::
    []))
  (.ret)
def c8_16 : HCode :=
  .seq (.region (some [0, 0, 3, 7, 0, 16, 48, 127, 255, 511, 511, 2047, 4095, 511, 8703, 32767, 65535, 131071, 262143, 262143, 262143, 1835007, 3932159, 8388607, 16777215, 33554431, 67108863, 134217727, 134217727, 536870911, 134217727, 134217727, 3355443199, 7650410495, 17179869183, 34359738367, 68719476735, 137438953471, 137438953471, 137438953471, 962072674303, 2061584302079, 4398046511103, 8796093022207, 137438953471, 35184372088831, 70368744177663, 140737488355327]) (⟨some 134, .mv 1 (.t 12), none⟩ ::
    ⟨some 135, .mv 0 (.t 15), none⟩ ::
    ⟨some 136, .iaddr 1 (.t 134) (.t 135), none⟩ ::
    ⟨some 137, .load false 1 (.t 136), none⟩ ::
    ⟨some 138, .mv 1 (.t 12), none⟩ ::
    ⟨some 139, .iaddr 1 (.t 138) (.c (.int .i64 0)), none⟩ ::
    ⟨some 140, .load false 1 (.t 139), none⟩ ::
    ⟨some 141, .bin .lss (.t 137) (.t 140), none⟩ ::
    ⟨some 142, .mv 0 (.t 141), none⟩ ::
    ⟨some 143, .mv 1 (.t 12), some (8, false)⟩ ::
    ⟨some 144, .mv 0 (.t 15), some (8, false)⟩ ::
    ⟨some 145, .iaddr 1 (.t 143) (.t 144), some (8, false)⟩ ::
    ⟨some 146, .load false 1 (.t 145), some (8, false)⟩ ::
    ⟨some 147, .mv 1 (.t 5), some (8, false)⟩ ::
    ⟨some 148, .len (.t 147), some (8, false)⟩ ::
    ⟨some 149, .bin .geq (.t 146) (.t 148), some (8, false)⟩ ::
    ⟨some 150, .pick (.t 142) (.c (.bool true)) (.t 149), none⟩ ::
    ⟨some 151, .mv 0 (.t 150), none⟩ ::
    ⟨some 152, .mv 1 (.t 6), some (17, false)⟩ ::
    ⟨some 153, .mv 1 (.t 12), some (17, false)⟩ ::
    ⟨some 154, .mv 0 (.t 15), some (17, false)⟩ ::
    ⟨some 155, .iaddr 1 (.t 153) (.t 154), some (17, false)⟩ ::
    ⟨some 156, .load false 1 (.t 155), some (17, false)⟩ ::
    ⟨some 157, .iaddr 1 (.t 152) (.t 156), some (17, false)⟩ ::
    ⟨some 158, .load false 1 (.t 157), some (17, false)⟩ ::
    ⟨some 159, .pick (.t 151) (.c (.bool true)) (.t 158), none⟩ ::
    ⟨some 160, .mv 0 (.t 159), none⟩ ::
    ⟨some 161, .mv 1 (.t 12), some (26, false)⟩ ::
    ⟨some 162, .mv 0 (.t 15), some (26, false)⟩ ::
    ⟨some 163, .slc 1 (.t 161) none (some (.t 162)), some (26, false)⟩ ::
    ⟨some 164, .mv 1 (.t 12), some (26, false)⟩ ::
    ⟨some 165, .mv 0 (.t 15), some (26, false)⟩ ::
    ⟨some 166, .iaddr 1 (.t 164) (.t 165), some (26, false)⟩ ::
    ⟨some 167, .load false 1 (.t 166), some (26, false)⟩ ::
    ⟨some 168, .call 29 [(.t 163), (.t 167)], some (26, false)⟩ ::
    ⟨some 169, .pick (.t 160) (.c (.bool true)) (.t 168), none⟩ ::
    ⟨some 170, .mv 0 (.t 169), none⟩ ::
    ⟨some 171, .mv 1 (.t 5), some (36, false)⟩ ::
    ⟨some 172, .mv 1 (.t 12), some (36, false)⟩ ::
    ⟨some 173, .mv 0 (.t 15), some (36, false)⟩ ::
    ⟨some 174, .iaddr 1 (.t 172) (.t 173), some (36, false)⟩ ::
    ⟨some 175, .load false 1 (.t 174), some (36, false)⟩ ::
    ⟨some 176, .iaddr 1 (.t 171) (.t 175), some (36, false)⟩ ::
    ⟨some 177, .load false 1 (.t 176), some (36, false)⟩ ::
    ⟨some 178, .mv 0 (.t 16), some (36, false)⟩ ::
    ⟨some 179, .call 29 [(.t 177), (.t 178)], some (36, false)⟩ ::
    ⟨some 180, .un .not (.t 179), some (36, false)⟩ ::
    ⟨some 181, .pick (.t 170) (.c (.bool true)) (.t 180), none⟩ ::
    []))
  (.cond (.t 181) (c8_15) (.skip))
def c8_17 : HCode :=
  .region none (⟨some 124, .mv 0 (.t 15), none⟩ ::
    ⟨some 125, .bin .add (.t 124) (.c (.int .i64 1)), none⟩ ::
    ⟨some 15, .mv 0 (.t 125), none⟩ ::
    [])
def c8_18 : HCode :=
  .seq (.block 7 (.seq (.region none (⟨some 126, .mv 1 (.t 12), none⟩ ::
      ⟨some 127, .mv 0 (.t 15), none⟩ ::
      ⟨some 128, .bin .add (.t 127) (.c (.int .i64 1)), none⟩ ::
      ⟨some 129, .mv 1 (.t 12), none⟩ ::
      ⟨some 130, .len (.t 129), none⟩ ::
      ⟨some 131, .bin .rem (.t 128) (.t 130), none⟩ ::
      ⟨some 132, .iaddr 1 (.t 126) (.t 131), none⟩ ::
      ⟨some 133, .load false 1 (.t 132), none⟩ ::
      ⟨some 16, .mv 0 (.t 133), none⟩ ::
      []))
    (c8_16)))
  (c8_17)
def c8_19 : HCode :=
  .seq (.seq (.region none (⟨some 120, .mv 0 (.t 15), none⟩ ::
    ⟨some 121, .mv 1 (.t 12), none⟩ ::
    ⟨some 122, .len (.t 121), none⟩ ::
    ⟨some 123, .bin .lss (.t 120) (.t 122), none⟩ ::
    []))
  (.cond (.t 123) (.skip) (.exit 6)))
  (c8_18)
def c8_20 : HCode :=
  .seq (.region none (⟨some 182, .mv 0 (.t 13), none⟩ ::
    ⟨some 183, .mv 1 (.t 12), none⟩ ::
    ⟨some 184, .len (.t 183), none⟩ ::
    ⟨some 185, .bin .gtr (.t 184) (.c (.int .i64 0)), none⟩ ::
    ⟨some 186, .beq false (.t 182) (.t 185), none⟩ ::
    ⟨some 187, .mv 0 (.t 186), none⟩ ::
    ⟨some 188, .call 20 [], some (5, true)⟩ ::
    ⟨some 189, .pick (.t 187) (.t 188) (.c (.bool false)), none⟩ ::
    ⟨some 4, .mv 0 (.t 189), none⟩ ::
    []))
  (.ret)
def c8_21 : HCode :=
  .seq (.seq (.region none (⟨some 15, .mv 0 (.c (.int .i64 0)), none⟩ ::
    []))
  (.block 6 (.loop (c8_19))))
  (c8_20)
def c8_22 : HCode :=
  .seq (.seq (.region none (⟨some 14, .mv 0 (.c (.int .i64 0)), none⟩ ::
    []))
  (.block 4 (.loop (c8_14))))
  (c8_21)
def c8_23 : HCode :=
  .seq (.region none (⟨some 13, .mv 0 (.c (.bool false)), none⟩ ::
    []))
  (c8_22)
def c8_24 : HCode :=
  .seq (.seq (.region none (⟨some 101, .mv 1 (.t 11), none⟩ ::
    ⟨some 102, .len (.t 101), none⟩ ::
    ⟨some 103, .mv 1 (.t 5), none⟩ ::
    ⟨some 104, .len (.t 103), none⟩ ::
    ⟨some 105, .bin .neq (.t 102) (.t 104), none⟩ ::
    []))
  (.cond (.t 105) (c8_11) (.skip)))
  (c8_23)
def c8_25 : HCode :=
  .seq (.region none (⟨some 98, .mv 1 (.t 5), none⟩ ::
    ⟨some 99, .mv 1 (.t 6), none⟩ ::
    ⟨some 100, .call 27 [(.t 98), (.t 99)], none⟩ ::
    ⟨some 12, .mv 1 (.t 100), none⟩ ::
    []))
  (c8_24)
def c8_26 : HCode :=
  .seq (.region none (⟨some 93, .mv 1 (.t 7), none⟩ ::
    ⟨some 94, .mv 1 (.t 7), none⟩ ::
    ⟨some 95, .len (.t 94), none⟩ ::
    ⟨some 96, .mksl 1 1 [.bool false] (.t 95), none⟩ ::
    ⟨some 97, .call 17 [(.t 93), (.t 96)], none⟩ ::
    ⟨some 11, .mv 1 (.t 97), none⟩ ::
    []))
  (c8_25)
def c8_27 : HCode :=
  .seq (.seq (.region none (⟨some 8, .mv 0 (.c (.int .i64 0)), none⟩ ::
    []))
  (.block 0 (.loop (c8_10))))
  (c8_26)
def c8_28 : HCode :=
  .seq (.region none (⟨some 7, .mv 1 (.c (.nils)), none⟩ ::
    []))
  (c8_27)
def c8_29 : HCode :=
  .seq (.region none (⟨some 40, .mv 1 (.t 0), none⟩ ::
    ⟨some 41, .mv 0 (.t 1), none⟩ ::
    ⟨some 42, .call 13 [(.t 41), (.c (.int .i64 61))], none⟩ ::
    ⟨some 43, .call 12 [(.t 40), (.t 42)], none⟩ ::
    ⟨some 39, .mv 0 (.t 43), none⟩ ::
    ⟨some 44, .ext (.t 39) 0, none⟩ ::
    ⟨some 45, .ext (.t 39) 1, none⟩ ::
    ⟨some 5, .mv 1 (.t 44), none⟩ ::
    ⟨some 6, .mv 1 (.t 45), none⟩ ::
    []))
  (c8_28)
def c8_30 : HCode :=
  .seq (.seq (.region none (⟨some 22, .mv 1 (.t 5), none⟩ ::
    ⟨some 23, .mv 1 (.t 6), none⟩ ::
    ⟨some 24, .call 27 [(.t 22), (.t 23)], none⟩ ::
    ⟨some 25, .mv 1 (.t 5), none⟩ ::
    ⟨some 26, .mv 1 (.t 6), none⟩ ::
    ⟨some 27, .call 28 [(.t 25), (.t 26)], none⟩ ::
    ⟨some 28, .call 16 [(.t 24), (.t 27)], none⟩ ::
    ⟨some 29, .un .not (.t 28), none⟩ ::
    ⟨some 30, .mv 0 (.t 29), none⟩ ::
    ⟨some 31, .mv 1 (.t 5), some (8, false)⟩ ::
    ⟨some 32, .mv 1 (.t 6), some (8, false)⟩ ::
    ⟨some 33, .bsl 1 1 [(.c (.bool false))], some (8, false)⟩ ::
    ⟨some 34, .app true 1 1 (.t 32) (.t 33), some (8, false)⟩ ::
    ⟨some 35, .call 27 [(.t 31), (.t 34)], some (8, false)⟩ ::
    ⟨some 36, .len (.t 35), some (8, false)⟩ ::
    ⟨some 37, .bin .neq (.t 36) (.c (.int .i64 0)), some (8, false)⟩ ::
    ⟨some 38, .pick (.t 30) (.c (.bool true)) (.t 37), none⟩ ::
    []))
  (.cond (.t 38) (c8_1) (.skip)))
  (c8_29)
def c8_31 : HCode :=
  .seq (.region none (⟨some 18, .mv 1 (.t 0), none⟩ ::
    ⟨some 19, .call 23 [(.t 18)], none⟩ ::
    ⟨some 17, .mv 0 (.t 19), none⟩ ::
    ⟨some 20, .ext (.t 17) 0, none⟩ ::
    ⟨some 21, .ext (.t 17) 1, none⟩ ::
    ⟨some 5, .mv 1 (.t 20), none⟩ ::
    ⟨some 6, .mv 1 (.t 21), none⟩ ::
    []))
  (c8_30)
def c8 : HCode :=
  .seq (.region none (⟨some 4, .mv 0 (.c (.bool false)), none⟩ ::
    []))
  (c8_31)
theorem fc8 : funCode Try.prog 8 = some (c8, [4], 190) := by kernel_rfl

end Go.Proofs.Ytjlidhijnohkbaa
