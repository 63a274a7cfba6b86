/-
  OWN WORK, written by my own program. The law's function in the value language, checked against the translation.
-/
import Derived.Test.YtbddkmhpfbmcmaaHl4
import Derived.Test.YtbddkmhpfbmcmaaProg
namespace Go.Proofs.Ytbddkmhpfbmcmaa
open Go.HL
set_option maxRecDepth 100000
set_option linter.unusedVariables false
def c3_1 : HCode :=
  .seq (.region none (⟨some 10, .mv 0 (.c (.bool false)), none⟩ ::
    []))
  (.ret)
def c3_2 : HCode :=
  .region none (⟨some 110, .mv 3 (.t 12), none⟩ ::
    ⟨some 111, .mv 0 (.t 11), none⟩ ::
    ⟨some 112, .mv 0 (.t 1), none⟩ ::
    ⟨some 113, .mv 0 (.t 2), none⟩ ::
    ⟨some 114, .call 16 [(.t 110), (.t 111), (.t 112), (.t 113)], none⟩ ::
    ⟨some 26, .mv 3 (.t 114), none⟩ ::
    [])
def c3_3 : HCode :=
  .seq (.region none (⟨some 10, .mv 0 (.c (.bool false)), none⟩ ::
    []))
  (.ret)
def c3_4 : HCode :=
  .seq (.region none (⟨some 10, .mv 0 (.c (.bool false)), none⟩ ::
    []))
  (.ret)
def c3_5 : HCode :=
  .seq (.region none (⟨some 181, .mv 0 (.t 19), none⟩ ::
    ⟨some 182, .bin .neq (.t 181) (.c (.int .i64 1)), none⟩ ::
    ⟨some 183, .mv 0 (.t 182), none⟩ ::
    ⟨some 184, .mv 0 (.t 21), some (2, false)⟩ ::
    ⟨some 185, .bin .neq (.t 184) (.c (.int .i64 1)), some (2, false)⟩ ::
    ⟨some 186, .pick (.t 183) (.c (.bool true)) (.t 185), none⟩ ::
    ⟨some 187, .mv 0 (.t 186), none⟩ ::
    ⟨some 188, .mv 0 (.t 17), some (6, false)⟩ ::
    ⟨some 189, .bin .neq (.t 188) (.c (.int .i64 0)), some (6, false)⟩ ::
    ⟨some 190, .pick (.t 187) (.c (.bool true)) (.t 189), none⟩ ::
    ⟨some 191, .mv 0 (.t 190), none⟩ ::
    ⟨some 192, .mv 1 (.t 18), some (10, false)⟩ ::
    ⟨some 193, .len (.t 192), some (10, false)⟩ ::
    ⟨some 194, .mv 1 (.t 20), some (10, false)⟩ ::
    ⟨some 195, .len (.t 194), some (10, false)⟩ ::
    ⟨some 196, .bin .add (.t 193) (.t 195), some (10, false)⟩ ::
    ⟨some 197, .bin .gtr (.t 196) (.c (.int .i64 0)), some (10, false)⟩ ::
    ⟨some 198, .pick (.t 191) (.c (.bool true)) (.t 197), none⟩ ::
    []))
  (.cond (.t 198) (c3_4) (.skip))
def c3_6 : HCode :=
  .seq (.region (some [0, 0, 3, 7, 0, 0, 0, 96, 224, 0, 0, 1536, 3584, 8191, 16383, 32767, 32767, 65535, 262143]) (⟨some 165, .mv 1 (.t 22), none⟩ ::
    ⟨some 166, .mv 0 (.t 25), none⟩ ::
    ⟨some 167, .iaddr 1 (.t 165) (.t 166), none⟩ ::
    ⟨some 168, .load false 1 (.t 167), none⟩ ::
    ⟨some 169, .mv 3 (.t 26), none⟩ ::
    ⟨some 170, .mv 1 (.t 23), none⟩ ::
    ⟨some 171, .mv 0 (.t 25), none⟩ ::
    ⟨some 172, .iaddr 1 (.t 170) (.t 171), none⟩ ::
    ⟨some 173, .load false 1 (.t 172), none⟩ ::
    ⟨some 174, .mv 1 (.t 24), none⟩ ::
    ⟨some 175, .mv 0 (.t 25), none⟩ ::
    ⟨some 176, .iaddr 1 (.t 174) (.t 175), none⟩ ::
    ⟨some 177, .load false 1 (.t 176), none⟩ ::
    ⟨some 178, .call 14 [(.t 168), (.t 169), (.t 173), (.t 177)], none⟩ ::
    ⟨some 164, .mv 0 (.t 178), none⟩ ::
    ⟨some 179, .ext (.t 164) 0, none⟩ ::
    ⟨some 180, .ext (.t 164) 1, none⟩ ::
    ⟨some 20, .mv 1 (.t 179), none⟩ ::
    ⟨some 21, .mv 0 (.t 180), none⟩ ::
    []))
  (c3_5)
def c3_7 : HCode :=
  .seq (.region (some [0, 0, 3, 7, 0, 0, 0, 96, 224, 0, 0, 1536, 3584, 8191, 16383, 32767, 32767, 32767, 65535, 393215, 1048575]) (⟨some 147, .mv 1 (.t 22), none⟩ ::
    ⟨some 148, .mv 0 (.t 25), none⟩ ::
    ⟨some 149, .iaddr 1 (.t 147) (.t 148), none⟩ ::
    ⟨some 150, .load false 1 (.t 149), none⟩ ::
    ⟨some 151, .mv 3 (.t 26), none⟩ ::
    ⟨some 152, .mv 1 (.t 23), none⟩ ::
    ⟨some 153, .mv 0 (.t 25), none⟩ ::
    ⟨some 154, .iaddr 1 (.t 152) (.t 153), none⟩ ::
    ⟨some 155, .load false 1 (.t 154), none⟩ ::
    ⟨some 156, .mv 1 (.t 24), none⟩ ::
    ⟨some 157, .mv 0 (.t 25), none⟩ ::
    ⟨some 158, .iaddr 1 (.t 156) (.t 157), none⟩ ::
    ⟨some 159, .load false 1 (.t 158), none⟩ ::
    ⟨some 160, .call 13 [(.t 150), (.t 151), (.t 155), (.t 159)], none⟩ ::
    ⟨some 146, .mv 0 (.t 160), none⟩ ::
    ⟨some 161, .ext (.t 146) 0, none⟩ ::
    ⟨some 162, .ext (.t 146) 1, none⟩ ::
    ⟨some 163, .ext (.t 146) 2, none⟩ ::
    ⟨some 17, .mv 0 (.t 161), none⟩ ::
    ⟨some 18, .mv 1 (.t 162), none⟩ ::
    ⟨some 19, .mv 0 (.t 163), none⟩ ::
    []))
  (c3_6)
def c3_8 : HCode :=
  .seq (.seq (.region none (⟨some 145, .mv 0 (.t 27), none⟩ ::
    []))
  (.cond (.t 145) (.exit 1) (.skip)))
  (c3_7)
def c3_9 : HCode :=
  .seq (.seq (.region (some [0, 0, 3, 7, 0, 0, 0, 96, 224, 0, 0, 1536, 3584, 8191, 0, 32767]) (⟨some 129, .mv 1 (.t 22), none⟩ ::
    ⟨some 130, .mv 0 (.t 25), none⟩ ::
    ⟨some 131, .iaddr 1 (.t 129) (.t 130), none⟩ ::
    ⟨some 132, .load false 1 (.t 131), none⟩ ::
    ⟨some 133, .mv 3 (.t 26), none⟩ ::
    ⟨some 134, .mv 1 (.t 23), none⟩ ::
    ⟨some 135, .mv 0 (.t 25), none⟩ ::
    ⟨some 136, .iaddr 1 (.t 134) (.t 135), none⟩ ::
    ⟨some 137, .load false 1 (.t 136), none⟩ ::
    ⟨some 138, .mv 1 (.t 24), none⟩ ::
    ⟨some 139, .mv 0 (.t 25), none⟩ ::
    ⟨some 140, .iaddr 1 (.t 138) (.t 139), none⟩ ::
    ⟨some 141, .load false 1 (.t 140), none⟩ ::
    ⟨some 142, .call 18 [(.t 132), (.t 133), (.t 137), (.t 141)], none⟩ ::
    ⟨some 143, .mv 0 (.t 27), none⟩ ::
    ⟨some 144, .beq true (.t 142) (.t 143), none⟩ ::
    []))
  (.cond (.t 144) (c3_3) (.skip)))
  (c3_8)
def c3_10 : HCode :=
  .seq (.region (some [0, 0, 3, 7, 0, 0, 0, 96, 224, 0, 0, 1536, 3584, 8191, 16383]) (⟨some 115, .mv 1 (.t 22), none⟩ ::
    ⟨some 116, .mv 0 (.t 25), none⟩ ::
    ⟨some 117, .iaddr 1 (.t 115) (.t 116), none⟩ ::
    ⟨some 118, .load false 1 (.t 117), none⟩ ::
    ⟨some 119, .mv 3 (.t 26), none⟩ ::
    ⟨some 120, .mv 1 (.t 23), none⟩ ::
    ⟨some 121, .mv 0 (.t 25), none⟩ ::
    ⟨some 122, .iaddr 1 (.t 120) (.t 121), none⟩ ::
    ⟨some 123, .load false 1 (.t 122), none⟩ ::
    ⟨some 124, .mv 1 (.t 24), none⟩ ::
    ⟨some 125, .mv 0 (.t 25), none⟩ ::
    ⟨some 126, .iaddr 1 (.t 124) (.t 125), none⟩ ::
    ⟨some 127, .load false 1 (.t 126), none⟩ ::
    ⟨some 128, .call 17 [(.t 118), (.t 119), (.t 123), (.t 127)], none⟩ ::
    ⟨some 27, .mv 0 (.t 128), none⟩ ::
    []))
  (c3_9)
def c3_11 : HCode :=
  .seq (.seq (.region none (⟨some 108, .mv 0 (.t 25), none⟩ ::
    ⟨some 109, .bin .eql (.t 108) (.c (.int .i64 0)), none⟩ ::
    []))
  (.cond (.t 109) (c3_2) (.skip)))
  (c3_10)
def c3_12 : HCode :=
  .region none (⟨some 105, .mv 0 (.t 25), none⟩ ::
    ⟨some 106, .bin .add (.t 105) (.c (.int .i64 1)), none⟩ ::
    ⟨some 25, .mv 0 (.t 106), none⟩ ::
    [])
def c3_13 : HCode :=
  .seq (.block 1 (.seq (.region none (⟨some 107, .mv 3 (.t 12), none⟩ ::
      ⟨some 26, .mv 3 (.t 107), none⟩ ::
      []))
    (c3_11)))
  (c3_12)
def c3_14 : HCode :=
  .seq (.seq (.region none (⟨some 101, .mv 0 (.t 25), none⟩ ::
    ⟨some 102, .mv 1 (.t 22), none⟩ ::
    ⟨some 103, .len (.t 102), none⟩ ::
    ⟨some 104, .bin .lss (.t 101) (.t 103), none⟩ ::
    []))
  (.cond (.t 104) (.skip) (.exit 0)))
  (c3_13)
def c3_15 : HCode :=
  .seq (.region none (⟨some 199, .call 19 [], none⟩ ::
    ⟨some 10, .mv 0 (.t 199), none⟩ ::
    []))
  (.ret)
def c3_16 : HCode :=
  .seq (.seq (.region none (⟨some 25, .mv 0 (.c (.int .i64 0)), none⟩ ::
    []))
  (.block 0 (.loop (c3_14))))
  (c3_15)
def c3_17 : HCode :=
  .seq (.region none (⟨some 95, .mv 0 (.t 14), none⟩ ::
    ⟨some 96, .mv 0 (.t 14), none⟩ ::
    ⟨some 97, .mv 0 (.t 4), none⟩ ::
    ⟨some 98, .mv 0 (.t 14), none⟩ ::
    ⟨some 99, .mv 0 (.t 14), none⟩ ::
    ⟨some 100, .bsl 1 6 [(.t 95), (.t 96), (.t 97), (.c (.int .i64 0)), (.t 98), (.t 99)], none⟩ ::
    ⟨some 24, .mv 1 (.t 100), none⟩ ::
    []))
  (c3_16)
def c3_18 : HCode :=
  .seq (.region none (⟨some 89, .mv 0 (.t 13), none⟩ ::
    ⟨some 90, .mv 0 (.t 3), none⟩ ::
    ⟨some 91, .mv 0 (.t 13), none⟩ ::
    ⟨some 92, .mv 0 (.t 13), none⟩ ::
    ⟨some 93, .mv 0 (.t 13), none⟩ ::
    ⟨some 94, .bsl 1 6 [(.t 89), (.t 90), (.t 91), (.c (.int .i64 0)), (.t 92), (.t 93)], none⟩ ::
    ⟨some 23, .mv 1 (.t 94), none⟩ ::
    []))
  (c3_17)
def c3_19 : HCode :=
  .seq (.region none (⟨some 84, .mv 0 (.t 11), none⟩ ::
    ⟨some 85, .mv 0 (.t 11), none⟩ ::
    ⟨some 86, .mv 0 (.t 11), none⟩ ::
    ⟨some 87, .mv 0 (.t 3), none⟩ ::
    ⟨some 88, .bsl 1 6 [(.t 84), (.t 85), (.t 86), (.c (.int .i64 1)), (.c (.int .i64 259)), (.t 87)], none⟩ ::
    ⟨some 22, .mv 1 (.t 88), none⟩ ::
    []))
  (c3_18)
def c3_20 : HCode :=
  .seq (.seq (.region none (⟨some 60, .mv 0 (.t 19), none⟩ ::
    ⟨some 61, .bin .neq (.t 60) (.c (.int .i64 0)), none⟩ ::
    ⟨some 62, .mv 0 (.t 61), none⟩ ::
    ⟨some 63, .mv 0 (.t 21), some (2, false)⟩ ::
    ⟨some 64, .bin .neq (.t 63) (.c (.int .i64 0)), some (2, false)⟩ ::
    ⟨some 65, .pick (.t 62) (.c (.bool true)) (.t 64), none⟩ ::
    ⟨some 66, .mv 0 (.t 65), none⟩ ::
    ⟨some 67, .mv 0 (.t 17), some (6, false)⟩ ::
    ⟨some 68, .mv 0 (.t 15), some (6, false)⟩ ::
    ⟨some 69, .bin .neq (.t 67) (.t 68), some (6, false)⟩ ::
    ⟨some 70, .pick (.t 66) (.c (.bool true)) (.t 69), none⟩ ::
    ⟨some 71, .mv 0 (.t 70), none⟩ ::
    ⟨some 72, .mv 1 (.t 18), some (11, false)⟩ ::
    ⟨some 73, .len (.t 72), some (11, false)⟩ ::
    ⟨some 74, .mv 3 (.t 12), some (11, false)⟩ ::
    ⟨some 75, .len (.t 74), some (11, false)⟩ ::
    ⟨some 76, .bin .neq (.t 73) (.t 75), some (11, false)⟩ ::
    ⟨some 77, .pick (.t 71) (.c (.bool true)) (.t 76), none⟩ ::
    ⟨some 78, .mv 0 (.t 77), none⟩ ::
    ⟨some 79, .mv 1 (.t 20), some (18, false)⟩ ::
    ⟨some 80, .mv 1 (.t 16), some (18, false)⟩ ::
    ⟨some 81, .call 15 [(.t 79), (.t 80)], some (18, false)⟩ ::
    ⟨some 82, .un .not (.t 81), some (18, false)⟩ ::
    ⟨some 83, .pick (.t 78) (.c (.bool true)) (.t 82), none⟩ ::
    []))
  (.cond (.t 83) (c3_1) (.skip)))
  (c3_19)
def c3_21 : HCode :=
  .seq (.region none (⟨some 53, .mv 0 (.t 11), none⟩ ::
    ⟨some 54, .mv 3 (.t 12), none⟩ ::
    ⟨some 55, .mv 0 (.t 13), none⟩ ::
    ⟨some 56, .mv 0 (.t 14), none⟩ ::
    ⟨some 57, .call 14 [(.t 53), (.t 54), (.t 55), (.t 56)], none⟩ ::
    ⟨some 52, .mv 0 (.t 57), none⟩ ::
    ⟨some 58, .ext (.t 52) 0, none⟩ ::
    ⟨some 59, .ext (.t 52) 1, none⟩ ::
    ⟨some 20, .mv 1 (.t 58), none⟩ ::
    ⟨some 21, .mv 0 (.t 59), none⟩ ::
    []))
  (c3_20)
def c3_22 : HCode :=
  .seq (.region none (⟨some 44, .mv 0 (.t 11), none⟩ ::
    ⟨some 45, .mv 3 (.t 12), none⟩ ::
    ⟨some 46, .mv 0 (.t 13), none⟩ ::
    ⟨some 47, .mv 0 (.t 14), none⟩ ::
    ⟨some 48, .call 13 [(.t 44), (.t 45), (.t 46), (.t 47)], none⟩ ::
    ⟨some 43, .mv 0 (.t 48), none⟩ ::
    ⟨some 49, .ext (.t 43) 0, none⟩ ::
    ⟨some 50, .ext (.t 43) 1, none⟩ ::
    ⟨some 51, .ext (.t 43) 2, none⟩ ::
    ⟨some 17, .mv 0 (.t 49), none⟩ ::
    ⟨some 18, .mv 1 (.t 50), none⟩ ::
    ⟨some 19, .mv 0 (.t 51), none⟩ ::
    []))
  (c3_21)
def c3_23 : HCode :=
  .seq (.region none (⟨some 36, .mv 0 (.t 11), none⟩ ::
    ⟨some 37, .mv 3 (.t 12), none⟩ ::
    ⟨some 38, .mv 0 (.t 13), none⟩ ::
    ⟨some 39, .mv 0 (.t 14), none⟩ ::
    ⟨some 40, .call 12 [(.t 36), (.t 37), (.t 38), (.t 39)], none⟩ ::
    ⟨some 35, .mv 0 (.t 40), none⟩ ::
    ⟨some 41, .ext (.t 35) 0, none⟩ ::
    ⟨some 42, .ext (.t 35) 1, none⟩ ::
    ⟨some 15, .mv 0 (.t 41), none⟩ ::
    ⟨some 16, .mv 1 (.t 42), none⟩ ::
    []))
  (c3_22)
def c3_24 : HCode :=
  .seq (.region none (⟨some 29, .mv 1 (.t 0), none⟩ ::
    ⟨some 30, .call 11 [(.t 29)], none⟩ ::
    ⟨some 28, .mv 0 (.t 30), none⟩ ::
    ⟨some 31, .ext (.t 28) 0, none⟩ ::
    ⟨some 32, .ext (.t 28) 1, none⟩ ::
    ⟨some 33, .ext (.t 28) 2, none⟩ ::
    ⟨some 34, .ext (.t 28) 3, none⟩ ::
    ⟨some 11, .mv 0 (.t 31), none⟩ ::
    ⟨some 12, .mv 3 (.t 32), none⟩ ::
    ⟨some 13, .mv 0 (.t 33), none⟩ ::
    ⟨some 14, .mv 0 (.t 34), none⟩ ::
    []))
  (c3_23)
def c3 : HCode :=
  .seq (.region none (⟨some 10, .mv 0 (.c (.bool false)), none⟩ ::
    []))
  (c3_24)
theorem fc3 : funCode Try.prog 3 = some (c3, [10], 200) := by kernel_rfl

end Go.Proofs.Ytbddkmhpfbmcmaa
