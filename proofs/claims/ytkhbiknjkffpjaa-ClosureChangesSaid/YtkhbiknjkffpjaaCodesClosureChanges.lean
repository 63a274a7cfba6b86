/-
  OWN WORK, written by my own program. The law's function in the value language, checked against the translation.
-/
import Derived.Test.YtkhbiknjkffpjaaHl4
import Derived.Test.YtkhbiknjkffpjaaProg
namespace Go.Proofs.Ytkhbiknjkffpjaa
open Go.HL
set_option maxRecDepth 100000
set_option linter.unusedVariables false
def c9_1 : HCode :=
  .seq (.region none (⟨some 8, .mv 0 (.c (.bool false)), none⟩ ::
    []))
  (.ret)
def c9_2 : HCode :=
  .seq (.region none (⟨some 57, .mv 0 (.t 13), none⟩ ::
    ⟨some 58, .bin .eql (.t 57) (.c (.int .i64 0)), none⟩ ::
    ⟨some 59, .mv 0 (.t 58), none⟩ ::
    ⟨some 60, .call 21 [], some (2, true)⟩ ::
    ⟨some 61, .pick (.t 59) (.t 60) (.c (.bool false)), none⟩ ::
    ⟨some 8, .mv 0 (.t 61), none⟩ ::
    []))
  (.ret)
def c9_3 : HCode :=
  .seq (.region none (⟨some 8, .mv 0 (.c (.bool false)), none⟩ ::
    []))
  (.ret)
def c9_4 : HCode :=
  .region none (⟨some 133, .mv 0 (.t 23), none⟩ ::
    ⟨some 134, .bin .add (.t 133) (.c (.int .i64 1)), none⟩ ::
    ⟨some 23, .mv 0 (.t 134), none⟩ ::
    [])
def c9_5 : HCode :=
  .seq (.block 1 (.region none (⟨some 135, .mv 1 (.t 18), none⟩ ::
      ⟨some 136, .mv 0 (.t 23), none⟩ ::
      ⟨some 137, .mv 1 (.t 11), none⟩ ::
      ⟨some 138, .mv 0 (.t 23), none⟩ ::
      ⟨some 139, .iaddr 1 (.t 137) (.t 138), none⟩ ::
      ⟨some 140, .load false 1 (.t 139), none⟩ ::
      ⟨some 141, .mm false (.c (.int .i64 0)) (.t 140), none⟩ ::
      ⟨some 142, .iaddr 1 (.t 135) (.t 136), none⟩ ::
      ⟨none, .store true 1 (.t 142) (.t 141), none⟩ ::
      [])))
  (c9_4)
def c9_6 : HCode :=
  .seq (.seq (.region none (⟨some 129, .mv 0 (.t 23), none⟩ ::
    ⟨some 130, .mv 1 (.t 18), none⟩ ::
    ⟨some 131, .len (.t 130), none⟩ ::
    ⟨some 132, .bin .lss (.t 129) (.t 131), none⟩ ::
    []))
  (.cond (.t 132) (.skip) (.exit 0)))
  (c9_5)
def c9_7 : HCode :=
  .seq (.region none (⟨some 151, .mv 0 (.t 27), none⟩ ::
    ⟨some 152, .bin .eql (.t 151) (.c (.int .i64 0)), none⟩ ::
    ⟨some 153, .mv 0 (.t 152), none⟩ ::
    ⟨some 154, .mv 0 (.t 25), some (2, true)⟩ ::
    ⟨some 155, .bin .eql (.t 154) (.c (.int .i64 0)), some (2, true)⟩ ::
    ⟨some 156, .pick (.t 153) (.t 155) (.c (.bool false)), none⟩ ::
    ⟨some 157, .mv 0 (.t 156), none⟩ ::
    ⟨some 158, .mv 1 (.t 24), some (6, true)⟩ ::
    ⟨some 159, .mv 1 (.t 9), some (6, true)⟩ ::
    ⟨some 160, .len (.t 159), some (6, true)⟩ ::
    ⟨some 161, .mksl 1 1 [.bool false] (.t 160), some (6, true)⟩ ::
    ⟨some 162, .call 17 [(.t 158), (.t 161)], some (6, true)⟩ ::
    ⟨some 163, .pick (.t 157) (.t 162) (.c (.bool false)), none⟩ ::
    ⟨some 164, .mv 0 (.t 163), none⟩ ::
    ⟨some 165, .call 21 [], some (13, true)⟩ ::
    ⟨some 166, .pick (.t 164) (.t 165) (.c (.bool false)), none⟩ ::
    ⟨some 8, .mv 0 (.t 166), none⟩ ::
    []))
  (.ret)
def c9_8 : HCode :=
  .seq (.region none (⟨some 144, .mv 1 (.t 18), none⟩ ::
    ⟨some 145, .mv 1 (.t 9), none⟩ ::
    ⟨some 146, .call 25 [(.t 144), (.t 145)], none⟩ ::
    ⟨some 143, .mv 0 (.t 146), none⟩ ::
    ⟨some 147, .ext (.t 143) 0, none⟩ ::
    ⟨some 148, .ext (.t 143) 1, none⟩ ::
    ⟨some 149, .ext (.t 143) 2, none⟩ ::
    ⟨some 150, .ext (.t 143) 3, none⟩ ::
    ⟨some 24, .mv 1 (.t 147), none⟩ ::
    ⟨some 25, .mv 0 (.t 148), none⟩ ::
    ⟨some 26, .mv 1 (.t 149), none⟩ ::
    ⟨some 27, .mv 0 (.t 150), none⟩ ::
    []))
  (c9_7)
def c9_9 : HCode :=
  .seq (.seq (.region none (⟨some 23, .mv 0 (.c (.int .i64 0)), none⟩ ::
    []))
  (.block 0 (.loop (c9_6))))
  (c9_8)
def c9_10 : HCode :=
  .seq (.seq (.region none (⟨some 95, .mv 0 (.t 22), none⟩ ::
    ⟨some 96, .bin .neq (.t 95) (.c (.int .i64 0)), none⟩ ::
    ⟨some 97, .mv 0 (.t 96), none⟩ ::
    ⟨some 98, .mv 1 (.t 19), some (2, false)⟩ ::
    ⟨some 99, .len (.t 98), some (2, false)⟩ ::
    ⟨some 100, .mv 1 (.t 9), some (2, false)⟩ ::
    ⟨some 101, .len (.t 100), some (2, false)⟩ ::
    ⟨some 102, .bin .neq (.t 99) (.t 101), some (2, false)⟩ ::
    ⟨some 103, .pick (.t 97) (.c (.bool true)) (.t 102), none⟩ ::
    ⟨some 104, .mv 0 (.t 103), none⟩ ::
    ⟨some 105, .mv 0 (.t 20), some (9, false)⟩ ::
    ⟨some 106, .mv 0 (.t 13), some (9, false)⟩ ::
    ⟨some 107, .bin .lss (.t 105) (.t 106), some (9, false)⟩ ::
    ⟨some 108, .pick (.t 104) (.c (.bool true)) (.t 107), none⟩ ::
    ⟨some 109, .mv 0 (.t 108), none⟩ ::
    ⟨some 110, .mv 0 (.t 20), some (14, false)⟩ ::
    ⟨some 111, .mv 0 (.t 13), some (14, false)⟩ ::
    ⟨some 112, .mv 0 (.t 17), some (14, false)⟩ ::
    ⟨some 113, .bin .add (.t 111) (.t 112), some (14, false)⟩ ::
    ⟨some 114, .bin .gtr (.t 110) (.t 113), some (14, false)⟩ ::
    ⟨some 115, .pick (.t 109) (.c (.bool true)) (.t 114), none⟩ ::
    ⟨some 116, .mv 0 (.t 115), none⟩ ::
    ⟨some 117, .mv 1 (.t 12), some (21, false)⟩ ::
    ⟨some 118, .mv 0 (.t 16), some (21, false)⟩ ::
    ⟨some 119, .iaddr 1 (.t 117) (.t 118), some (21, false)⟩ ::
    ⟨some 120, .load false 1 (.t 119), some (21, false)⟩ ::
    ⟨some 121, .mv 0 (.t 120), some (21, false)⟩ ::
    ⟨some 122, .mv 1 (.t 19), some (26, true)⟩ ::
    ⟨some 123, .mv 0 (.t 16), some (26, true)⟩ ::
    ⟨some 124, .iaddr 1 (.t 122) (.t 123), some (26, true)⟩ ::
    ⟨some 125, .load false 1 (.t 124), some (26, true)⟩ ::
    ⟨some 126, .un .not (.t 125), some (26, true)⟩ ::
    ⟨some 127, .pick (.t 121) (.t 126) (.c (.bool false)), some (21, false)⟩ ::
    ⟨some 128, .pick (.t 116) (.c (.bool true)) (.t 127), none⟩ ::
    []))
  (.cond (.t 128) (c9_3) (.skip)))
  (c9_9)
def c9_11 : HCode :=
  .seq (.region none (⟨some 88, .mv 1 (.t 18), none⟩ ::
    ⟨some 89, .mv 1 (.t 9), none⟩ ::
    ⟨some 90, .call 25 [(.t 88), (.t 89)], none⟩ ::
    ⟨some 87, .mv 0 (.t 90), none⟩ ::
    ⟨some 91, .ext (.t 87) 0, none⟩ ::
    ⟨some 92, .ext (.t 87) 1, none⟩ ::
    ⟨some 93, .ext (.t 87) 2, none⟩ ::
    ⟨some 94, .ext (.t 87) 3, none⟩ ::
    ⟨some 19, .mv 1 (.t 91), none⟩ ::
    ⟨some 20, .mv 0 (.t 92), none⟩ ::
    ⟨some 21, .mv 1 (.t 93), none⟩ ::
    ⟨some 22, .mv 0 (.t 94), none⟩ ::
    []))
  (c9_10)
def c9_12 : HCode :=
  .seq (.region none (⟨some 78, .mv 1 (.t 18), none⟩ ::
    ⟨some 79, .mv 0 (.t 16), none⟩ ::
    ⟨some 80, .mv 1 (.t 11), none⟩ ::
    ⟨some 81, .mv 0 (.t 16), none⟩ ::
    ⟨some 82, .iaddr 1 (.t 80) (.t 81), none⟩ ::
    ⟨some 83, .load false 1 (.t 82), none⟩ ::
    ⟨some 84, .mv 0 (.t 17), none⟩ ::
    ⟨some 85, .bin .add (.t 83) (.t 84), none⟩ ::
    ⟨some 86, .iaddr 1 (.t 78) (.t 79), none⟩ ::
    ⟨none, .store true 1 (.t 86) (.t 85), none⟩ ::
    []))
  (c9_11)
def c9_13 : HCode :=
  .seq (.region none (⟨some 74, .mv 1 (.t 11), none⟩ ::
    ⟨some 75, .mv 1 (.t 11), none⟩ ::
    ⟨some 76, .len (.t 75), none⟩ ::
    ⟨some 77, .call 29 [(.t 74), (.t 76)], none⟩ ::
    ⟨some 18, .mv 1 (.t 77), none⟩ ::
    []))
  (c9_12)
def c9_14 : HCode :=
  .seq (.region (some [0, 1, 0, 0, 12, 28, 60, 127, 255]) (⟨some 66, .mv 0 (.t 3), none⟩ ::
    ⟨some 67, .call 30 [(.t 66), (.c (.int .i64 40))], none⟩ ::
    ⟨some 68, .mv 1 (.t 11), none⟩ ::
    ⟨some 69, .mv 0 (.t 16), none⟩ ::
    ⟨some 70, .iaddr 1 (.t 68) (.t 69), none⟩ ::
    ⟨some 71, .load false 1 (.t 70), none⟩ ::
    ⟨some 72, .bin .sub (.c (.int .i64 2147483648)) (.t 71), none⟩ ::
    ⟨some 73, .mm false (.t 67) (.t 72), none⟩ ::
    ⟨some 17, .mv 0 (.t 73), none⟩ ::
    []))
  (c9_13)
def c9_15 : HCode :=
  .seq (.region none (⟨some 62, .mv 0 (.t 2), none⟩ ::
    ⟨some 63, .mv 1 (.t 9), none⟩ ::
    ⟨some 64, .len (.t 63), none⟩ ::
    ⟨some 65, .call 30 [(.t 62), (.t 64)], none⟩ ::
    ⟨some 16, .mv 0 (.t 65), none⟩ ::
    []))
  (c9_14)
def c9_16 : HCode :=
  .seq (.seq (.region none (⟨some 54, .mv 1 (.t 9), none⟩ ::
    ⟨some 55, .len (.t 54), none⟩ ::
    ⟨some 56, .bin .eql (.t 55) (.c (.int .i64 0)), none⟩ ::
    []))
  (.cond (.t 56) (c9_2) (.skip)))
  (c9_15)
def c9_17 : HCode :=
  .seq (.seq (.region none (⟨some 45, .mv 0 (.t 15), none⟩ ::
    ⟨some 46, .bin .neq (.t 45) (.c (.int .i64 0)), none⟩ ::
    ⟨some 47, .mv 0 (.t 46), none⟩ ::
    ⟨some 48, .mv 1 (.t 12), some (2, false)⟩ ::
    ⟨some 49, .len (.t 48), some (2, false)⟩ ::
    ⟨some 50, .mv 1 (.t 9), some (2, false)⟩ ::
    ⟨some 51, .len (.t 50), some (2, false)⟩ ::
    ⟨some 52, .bin .neq (.t 49) (.t 51), some (2, false)⟩ ::
    ⟨some 53, .pick (.t 47) (.c (.bool true)) (.t 52), none⟩ ::
    []))
  (.cond (.t 53) (c9_1) (.skip)))
  (c9_16)
def c9_18 : HCode :=
  .seq (.region none (⟨some 38, .mv 1 (.t 11), none⟩ ::
    ⟨some 39, .mv 1 (.t 9), none⟩ ::
    ⟨some 40, .call 25 [(.t 38), (.t 39)], none⟩ ::
    ⟨some 37, .mv 0 (.t 40), none⟩ ::
    ⟨some 41, .ext (.t 37) 0, none⟩ ::
    ⟨some 42, .ext (.t 37) 1, none⟩ ::
    ⟨some 43, .ext (.t 37) 2, none⟩ ::
    ⟨some 44, .ext (.t 37) 3, none⟩ ::
    ⟨some 12, .mv 1 (.t 41), none⟩ ::
    ⟨some 13, .mv 0 (.t 42), none⟩ ::
    ⟨some 14, .mv 1 (.t 43), none⟩ ::
    ⟨some 15, .mv 0 (.t 44), none⟩ ::
    []))
  (c9_17)
def c9_19 : HCode :=
  .seq (.region none (⟨some 33, .mv 1 (.t 1), none⟩ ::
    ⟨some 34, .mv 1 (.t 9), none⟩ ::
    ⟨some 35, .len (.t 34), none⟩ ::
    ⟨some 36, .call 20 [(.t 33), (.t 35)], none⟩ ::
    ⟨some 11, .mv 1 (.t 36), none⟩ ::
    []))
  (c9_18)
def c9_20 : HCode :=
  .seq (.region none (⟨some 29, .mv 1 (.t 0), none⟩ ::
    ⟨some 30, .call 11 [(.t 29)], none⟩ ::
    ⟨some 28, .mv 0 (.t 30), none⟩ ::
    ⟨some 31, .ext (.t 28) 0, none⟩ ::
    ⟨some 32, .ext (.t 28) 1, none⟩ ::
    ⟨some 9, .mv 1 (.t 31), none⟩ ::
    ⟨some 10, .mv 1 (.t 32), none⟩ ::
    []))
  (c9_19)
def c9 : HCode :=
  .seq (.region none (⟨some 8, .mv 0 (.c (.bool false)), none⟩ ::
    []))
  (c9_20)
theorem fc9 : funCode Try.prog 9 = some (c9, [8], 167) := by kernel_rfl

end Go.Proofs.Ytkhbiknjkffpjaa
