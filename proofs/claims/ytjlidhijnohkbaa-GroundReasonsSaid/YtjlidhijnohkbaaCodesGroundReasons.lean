/-
  OWN WORK, written by my own program. The law's function in the value language, checked against the translation.
-/
import Derived.Test.YtjlidhijnohkbaaHl4
import Derived.Test.YtjlidhijnohkbaaProg
namespace Go.Proofs.Ytjlidhijnohkbaa
open Go.HL
set_option maxRecDepth 100000
set_option linter.unusedVariables false
def c7_1 : HCode :=
  .seq (.region none (⟨some 6, .mv 0 (.c (.bool false)), none⟩ ::
    []))
  (.ret)
def c7_2 : HCode :=
  .seq (.region none (⟨some 6, .mv 0 (.c (.bool false)), none⟩ ::
    []))
  (.ret)
def c7_3 : HCode :=
  .seq (.seq (.region none (⟨some 60, .mv 1 (.t 12), none⟩ ::
    ⟨some 61, .len (.t 60), none⟩ ::
    ⟨some 62, .bin .gtr (.t 61) (.c (.int .i64 0)), none⟩ ::
    []))
  (.cond (.t 62) (c7_2) (.skip)))
  (.exit 1)
def c7_4 : HCode :=
  .seq (.region none (⟨some 6, .mv 0 (.c (.bool false)), none⟩ ::
    []))
  (.ret)
def c7_5 : HCode :=
  .seq (.region none (⟨some 6, .mv 0 (.c (.bool false)), none⟩ ::
    []))
  (.ret)
def c7_6 : HCode :=
  .region none (⟨some 86, .mv 0 (.t 13), none⟩ ::
    ⟨some 87, .bin .add (.t 86) (.c (.int .i64 1)), none⟩ ::
    ⟨some 13, .mv 0 (.t 87), none⟩ ::
    [])
def c7_7 : HCode :=
  .seq (.block 3 (.seq (.region none (⟨some 88, .mv 1 (.t 9), none⟩ ::
      ⟨some 89, .mv 1 (.t 7), none⟩ ::
      ⟨some 90, .mv 0 (.t 11), none⟩ ::
      ⟨some 91, .iaddr 1 (.t 89) (.t 90), none⟩ ::
      ⟨some 92, .load false 1 (.t 91), none⟩ ::
      ⟨some 93, .mv 0 (.t 13), none⟩ ::
      ⟨some 94, .iaddr 1 (.t 92) (.t 93), none⟩ ::
      ⟨some 95, .load false 1 (.t 94), none⟩ ::
      ⟨some 96, .iaddr 1 (.t 88) (.t 95), none⟩ ::
      ⟨some 97, .load false 1 (.t 96), none⟩ ::
      ⟨some 98, .bin .lss (.t 97) (.c (.int .i64 0)), none⟩ ::
      ⟨some 99, .mv 0 (.t 98), none⟩ ::
      ⟨some 100, .mv 1 (.t 12), some (11, true)⟩ ::
      ⟨some 101, .len (.t 100), some (11, true)⟩ ::
      ⟨some 102, .mv 1 (.t 7), some (11, true)⟩ ::
      ⟨some 103, .mv 1 (.t 8), some (11, true)⟩ ::
      ⟨some 104, .mv 1 (.t 7), some (11, true)⟩ ::
      ⟨some 105, .mv 0 (.t 11), some (11, true)⟩ ::
      ⟨some 106, .iaddr 1 (.t 104) (.t 105), some (11, true)⟩ ::
      ⟨some 107, .load false 1 (.t 106), some (11, true)⟩ ::
      ⟨some 108, .mv 0 (.t 13), some (11, true)⟩ ::
      ⟨some 109, .iaddr 1 (.t 107) (.t 108), some (11, true)⟩ ::
      ⟨some 110, .load false 1 (.t 109), some (11, true)⟩ ::
      ⟨some 111, .call 24 [(.t 102), (.t 103), (.t 110)], some (11, true)⟩ ::
      ⟨some 112, .len (.t 111), some (11, true)⟩ ::
      ⟨some 113, .bin .add (.c (.int .i64 1)) (.t 112), some (11, true)⟩ ::
      ⟨some 114, .bin .gtr (.t 101) (.t 113), some (11, true)⟩ ::
      ⟨some 115, .pick (.t 99) (.t 114) (.c (.bool false)), none⟩ ::
      []))
    (.cond (.t 115) (c7_5) (.skip))))
  (c7_6)
def c7_8 : HCode :=
  .seq (.seq (.region none (⟨some 79, .mv 0 (.t 13), none⟩ ::
    ⟨some 80, .mv 1 (.t 7), none⟩ ::
    ⟨some 81, .mv 0 (.t 11), none⟩ ::
    ⟨some 82, .iaddr 1 (.t 80) (.t 81), none⟩ ::
    ⟨some 83, .load false 1 (.t 82), none⟩ ::
    ⟨some 84, .len (.t 83), none⟩ ::
    ⟨some 85, .bin .lss (.t 79) (.t 84), none⟩ ::
    []))
  (.cond (.t 85) (.skip) (.exit 2)))
  (c7_7)
def c7_9 : HCode :=
  .seq (.region none (⟨some 13, .mv 0 (.c (.int .i64 0)), none⟩ ::
    []))
  (.block 2 (.loop (c7_8)))
def c7_10 : HCode :=
  .seq (.seq (.region none (⟨some 63, .mv 1 (.t 7), none⟩ ::
    ⟨some 64, .mv 1 (.t 8), none⟩ ::
    ⟨some 65, .mv 1 (.t 12), none⟩ ::
    ⟨some 66, .mv 0 (.t 11), none⟩ ::
    ⟨some 67, .call 26 [(.t 63), (.t 64), (.t 65), (.t 66)], none⟩ ::
    ⟨some 68, .un .not (.t 67), none⟩ ::
    ⟨some 69, .mv 0 (.t 68), none⟩ ::
    ⟨some 70, .mv 1 (.t 12), some (6, false)⟩ ::
    ⟨some 71, .len (.t 70), some (6, false)⟩ ::
    ⟨some 72, .bin .eql (.t 71) (.c (.int .i64 1)), some (6, false)⟩ ::
    ⟨some 73, .mv 1 (.t 8), some (6, false)⟩ ::
    ⟨some 74, .mv 0 (.t 11), some (6, false)⟩ ::
    ⟨some 75, .iaddr 1 (.t 73) (.t 74), some (6, false)⟩ ::
    ⟨some 76, .load false 1 (.t 75), some (6, false)⟩ ::
    ⟨some 77, .beq true (.t 72) (.t 76), some (6, false)⟩ ::
    ⟨some 78, .pick (.t 69) (.c (.bool true)) (.t 77), none⟩ ::
    []))
  (.cond (.t 78) (c7_4) (.skip)))
  (c7_9)
def c7_11 : HCode :=
  .seq (.seq (.region none (⟨some 55, .mv 1 (.t 9), none⟩ ::
    ⟨some 56, .mv 0 (.t 11), none⟩ ::
    ⟨some 57, .iaddr 1 (.t 55) (.t 56), none⟩ ::
    ⟨some 58, .load false 1 (.t 57), none⟩ ::
    ⟨some 59, .bin .geq (.t 58) (.c (.int .i64 0)), none⟩ ::
    []))
  (.cond (.t 59) (c7_3) (.skip)))
  (c7_10)
def c7_12 : HCode :=
  .seq (.region none (⟨some 51, .mv 1 (.t 7), none⟩ ::
    ⟨some 52, .mv 1 (.t 8), none⟩ ::
    ⟨some 53, .mv 0 (.t 11), none⟩ ::
    ⟨some 54, .call 24 [(.t 51), (.t 52), (.t 53)], none⟩ ::
    ⟨some 12, .mv 1 (.t 54), none⟩ ::
    []))
  (c7_11)
def c7_13 : HCode :=
  .region none (⟨some 42, .mv 0 (.t 10), none⟩ ::
    ⟨some 43, .bin .add (.t 42) (.c (.int .i64 1)), none⟩ ::
    ⟨some 10, .mv 0 (.t 43), none⟩ ::
    [])
def c7_14 : HCode :=
  .seq (.block 1 (.seq (.region none (⟨some 44, .mv 1 (.t 2), none⟩ ::
      ⟨some 45, .mv 0 (.t 10), none⟩ ::
      ⟨some 46, .iaddr 1 (.t 44) (.t 45), none⟩ ::
      ⟨some 47, .load false 1 (.t 46), none⟩ ::
      ⟨some 48, .mv 1 (.t 7), none⟩ ::
      ⟨some 49, .len (.t 48), none⟩ ::
      ⟨some 50, .call 13 [(.t 47), (.t 49)], none⟩ ::
      ⟨some 11, .mv 0 (.t 50), none⟩ ::
      []))
    (c7_12)))
  (c7_13)
def c7_15 : HCode :=
  .seq (.seq (.region none (⟨some 29, .mv 0 (.t 10), none⟩ ::
    ⟨some 30, .mv 1 (.t 2), none⟩ ::
    ⟨some 31, .len (.t 30), none⟩ ::
    ⟨some 32, .bin .lss (.t 29) (.t 31), none⟩ ::
    ⟨some 33, .mv 0 (.t 32), none⟩ ::
    ⟨some 34, .mv 0 (.t 10), some (4, true)⟩ ::
    ⟨some 35, .bin .lss (.t 34) (.c (.int .i64 4)), some (4, true)⟩ ::
    ⟨some 36, .pick (.t 33) (.t 35) (.c (.bool false)), none⟩ ::
    ⟨some 37, .mv 0 (.t 36), none⟩ ::
    ⟨some 38, .mv 1 (.t 7), some (8, true)⟩ ::
    ⟨some 39, .len (.t 38), some (8, true)⟩ ::
    ⟨some 40, .bin .gtr (.t 39) (.c (.int .i64 0)), some (8, true)⟩ ::
    ⟨some 41, .pick (.t 37) (.t 40) (.c (.bool false)), none⟩ ::
    []))
  (.cond (.t 41) (.skip) (.exit 0)))
  (c7_14)
def c7_16 : HCode :=
  .seq (.region none (⟨some 116, .call 20 [], none⟩ ::
    ⟨some 6, .mv 0 (.t 116), none⟩ ::
    []))
  (.ret)
def c7_17 : HCode :=
  .seq (.seq (.region none (⟨some 10, .mv 0 (.c (.int .i64 0)), none⟩ ::
    []))
  (.block 0 (.loop (c7_15))))
  (c7_16)
def c7_18 : HCode :=
  .seq (.seq (.region none (⟨some 24, .mv 1 (.t 9), none⟩ ::
    ⟨some 25, .len (.t 24), none⟩ ::
    ⟨some 26, .mv 1 (.t 7), none⟩ ::
    ⟨some 27, .len (.t 26), none⟩ ::
    ⟨some 28, .bin .neq (.t 25) (.t 27), none⟩ ::
    []))
  (.cond (.t 28) (c7_1) (.skip)))
  (c7_17)
def c7_19 : HCode :=
  .seq (.region none (⟨some 21, .mv 1 (.t 7), none⟩ ::
    ⟨some 22, .mv 1 (.t 8), none⟩ ::
    ⟨some 23, .call 17 [(.t 21), (.t 22)], none⟩ ::
    ⟨some 9, .mv 1 (.t 23), none⟩ ::
    []))
  (c7_18)
def c7_20 : HCode :=
  .seq (.region none (⟨some 15, .mv 1 (.t 0), none⟩ ::
    ⟨some 16, .mv 0 (.t 1), none⟩ ::
    ⟨some 17, .call 13 [(.t 16), (.c (.int .i64 257))], none⟩ ::
    ⟨some 18, .call 12 [(.t 15), (.t 17)], none⟩ ::
    ⟨some 14, .mv 0 (.t 18), none⟩ ::
    ⟨some 19, .ext (.t 14) 0, none⟩ ::
    ⟨some 20, .ext (.t 14) 1, none⟩ ::
    ⟨some 7, .mv 1 (.t 19), none⟩ ::
    ⟨some 8, .mv 1 (.t 20), none⟩ ::
    []))
  (c7_19)
def c7 : HCode :=
  .seq (.region none (⟨some 6, .mv 0 (.c (.bool false)), none⟩ ::
    []))
  (c7_20)
theorem fc7 : funCode Try.prog 7 = some (c7, [6], 117) := by kernel_rfl

end Go.Proofs.Ytjlidhijnohkbaa
