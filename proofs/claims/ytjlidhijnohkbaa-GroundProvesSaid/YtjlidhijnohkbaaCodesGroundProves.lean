/-
  OWN WORK, written by my own program. The law's function in the value language, checked against the translation.
-/
import Derived.Test.YtjlidhijnohkbaaHl4
import Derived.Test.YtjlidhijnohkbaaProg
namespace Go.Proofs.Ytjlidhijnohkbaa
open Go.HL
set_option maxRecDepth 100000
set_option linter.unusedVariables false
def c5_1 : HCode :=
  .seq (.region none (⟨some 10, .mv 0 (.c (.bool false)), none⟩ ::
    []))
  (.ret)
def c5_2 : HCode :=
  .region (some [0, 0, 0, 0, 12, 28, 0, 64, 192, 508, 0, 1024, 3264, 8188, 16383, 32767]) (⟨some 54, .mv 1 (.t 14), none⟩ ::
    ⟨some 55, .mv 0 (.t 15), none⟩ ::
    ⟨some 56, .mv 1 (.t 14), none⟩ ::
    ⟨some 57, .mv 0 (.t 15), none⟩ ::
    ⟨some 58, .iaddr 1 (.t 56) (.t 57), none⟩ ::
    ⟨some 59, .load false 1 (.t 58), none⟩ ::
    ⟨some 60, .mv 0 (.t 2), none⟩ ::
    ⟨some 61, .call 13 [(.t 60), (.c (.int .i64 100))], none⟩ ::
    ⟨some 62, .bin .add (.c (.int .i64 1)) (.t 61), none⟩ ::
    ⟨some 63, .bin .mul (.t 59) (.t 62), none⟩ ::
    ⟨some 64, .mv 0 (.t 2), none⟩ ::
    ⟨some 65, .bin .quo (.t 64) (.c (.int .i64 100)), none⟩ ::
    ⟨some 66, .call 13 [(.t 65), (.c (.int .i64 9))], none⟩ ::
    ⟨some 67, .bin .add (.t 63) (.t 66), none⟩ ::
    ⟨some 68, .iaddr 1 (.t 54) (.t 55), none⟩ ::
    ⟨none, .store true 1 (.t 68) (.t 67), none⟩ ::
    [])
def c5_3 : HCode :=
  .region none (⟨some 47, .mv 0 (.t 15), none⟩ ::
    ⟨some 48, .bin .add (.t 47) (.c (.int .i64 1)), none⟩ ::
    ⟨some 15, .mv 0 (.t 48), none⟩ ::
    [])
def c5_4 : HCode :=
  .seq (.block 1 (.seq (.region none (⟨some 49, .mv 1 (.t 14), none⟩ ::
      ⟨some 50, .mv 0 (.t 15), none⟩ ::
      ⟨some 51, .iaddr 1 (.t 49) (.t 50), none⟩ ::
      ⟨some 52, .load false 1 (.t 51), none⟩ ::
      ⟨some 53, .bin .geq (.t 52) (.c (.int .i64 0)), none⟩ ::
      []))
    (.cond (.t 53) (c5_2) (.skip))))
  (c5_3)
def c5_5 : HCode :=
  .seq (.seq (.region none (⟨some 43, .mv 0 (.t 15), none⟩ ::
    ⟨some 44, .mv 1 (.t 14), none⟩ ::
    ⟨some 45, .len (.t 44), none⟩ ::
    ⟨some 46, .bin .lss (.t 43) (.t 45), none⟩ ::
    []))
  (.cond (.t 46) (.skip) (.exit 0)))
  (c5_4)
def c5_6 : HCode :=
  .seq (.region none (⟨some 10, .mv 0 (.c (.bool false)), none⟩ ::
    []))
  (.ret)
def c5_7 : HCode :=
  .region none (⟨some 93, .mv 0 (.t 16), none⟩ ::
    ⟨some 94, .bin .add (.t 93) (.c (.int .i64 1)), none⟩ ::
    ⟨some 16, .mv 0 (.t 94), none⟩ ::
    [])
def c5_8 : HCode :=
  .seq (.block 3 (.region (some [0, 0, 0, 6, 14, 0, 32, 126, 0, 0, 768, 1792, 4094, 8190, 16383, 32767]) (⟨some 95, .mv 1 (.t 14), none⟩ ::
      ⟨some 96, .mv 1 (.t 3), none⟩ ::
      ⟨some 97, .mv 0 (.t 16), none⟩ ::
      ⟨some 98, .iaddr 1 (.t 96) (.t 97), none⟩ ::
      ⟨some 99, .load false 1 (.t 98), none⟩ ::
      ⟨some 100, .mv 1 (.t 14), none⟩ ::
      ⟨some 101, .len (.t 100), none⟩ ::
      ⟨some 102, .call 13 [(.t 99), (.t 101)], none⟩ ::
      ⟨some 103, .mv 1 (.t 4), none⟩ ::
      ⟨some 104, .mv 0 (.t 16), none⟩ ::
      ⟨some 105, .iaddr 1 (.t 103) (.t 104), none⟩ ::
      ⟨some 106, .load false 1 (.t 105), none⟩ ::
      ⟨some 107, .call 13 [(.t 106), (.c (.int .i64 60))], none⟩ ::
      ⟨some 108, .bin .sub (.t 107) (.c (.int .i64 2)), none⟩ ::
      ⟨some 109, .iaddr 1 (.t 95) (.t 102), none⟩ ::
      ⟨none, .store true 1 (.t 109) (.t 108), none⟩ ::
      [])))
  (c5_7)
def c5_9 : HCode :=
  .seq (.seq (.region none (⟨some 74, .mv 0 (.t 16), none⟩ ::
    ⟨some 75, .mv 1 (.t 3), none⟩ ::
    ⟨some 76, .len (.t 75), none⟩ ::
    ⟨some 77, .bin .lss (.t 74) (.t 76), none⟩ ::
    ⟨some 78, .mv 0 (.t 77), none⟩ ::
    ⟨some 79, .mv 0 (.t 16), some (4, true)⟩ ::
    ⟨some 80, .mv 1 (.t 4), some (4, true)⟩ ::
    ⟨some 81, .len (.t 80), some (4, true)⟩ ::
    ⟨some 82, .bin .lss (.t 79) (.t 81), some (4, true)⟩ ::
    ⟨some 83, .pick (.t 78) (.t 82) (.c (.bool false)), none⟩ ::
    ⟨some 84, .mv 0 (.t 83), none⟩ ::
    ⟨some 85, .mv 0 (.t 16), some (10, true)⟩ ::
    ⟨some 86, .bin .lss (.t 85) (.c (.int .i64 6)), some (10, true)⟩ ::
    ⟨some 87, .pick (.t 84) (.t 86) (.c (.bool false)), none⟩ ::
    ⟨some 88, .mv 0 (.t 87), none⟩ ::
    ⟨some 89, .mv 1 (.t 14), some (14, true)⟩ ::
    ⟨some 90, .len (.t 89), some (14, true)⟩ ::
    ⟨some 91, .bin .gtr (.t 90) (.c (.int .i64 0)), some (14, true)⟩ ::
    ⟨some 92, .pick (.t 88) (.t 91) (.c (.bool false)), none⟩ ::
    []))
  (.cond (.t 92) (.skip) (.exit 2)))
  (c5_8)
def c5_10 : HCode :=
  .seq (.region none (⟨some 10, .mv 0 (.c (.bool false)), none⟩ ::
    []))
  (.ret)
def c5_11 : HCode :=
  .region none (⟨some 118, .mv 0 (.t 17), none⟩ ::
    ⟨some 119, .bin .add (.t 118) (.c (.int .i64 1)), none⟩ ::
    ⟨some 17, .mv 0 (.t 119), none⟩ ::
    [])
def c5_12 : HCode :=
  .seq (.block 5 (.seq (.region (some [0, 0, 3, 7, 15, 0, 0, 96, 224, 480, 1023, 2047, 4095, 4095, 16383, 32767, 4095, 4095, 200703, 462847, 1048575, 2097151]) (⟨some 120, .mv 1 (.t 14), none⟩ ::
      ⟨some 121, .mv 0 (.t 17), none⟩ ::
      ⟨some 122, .iaddr 1 (.t 120) (.t 121), none⟩ ::
      ⟨some 123, .load false 1 (.t 122), none⟩ ::
      ⟨some 124, .bin .geq (.t 123) (.c (.int .i64 0)), none⟩ ::
      ⟨some 125, .mv 1 (.t 13), none⟩ ::
      ⟨some 126, .mv 0 (.t 17), none⟩ ::
      ⟨some 127, .iaddr 1 (.t 125) (.t 126), none⟩ ::
      ⟨some 128, .load false 1 (.t 127), none⟩ ::
      ⟨some 129, .bin .geq (.t 128) (.c (.int .i64 0)), none⟩ ::
      ⟨some 130, .beq true (.t 124) (.t 129), none⟩ ::
      ⟨some 131, .mv 0 (.t 130), none⟩ ::
      ⟨some 132, .mv 1 (.t 14), some (11, false)⟩ ::
      ⟨some 133, .mv 0 (.t 17), some (11, false)⟩ ::
      ⟨some 134, .iaddr 1 (.t 132) (.t 133), some (11, false)⟩ ::
      ⟨some 135, .load false 1 (.t 134), some (11, false)⟩ ::
      ⟨some 136, .mv 1 (.t 13), some (11, false)⟩ ::
      ⟨some 137, .mv 0 (.t 17), some (11, false)⟩ ::
      ⟨some 138, .iaddr 1 (.t 136) (.t 137), some (11, false)⟩ ::
      ⟨some 139, .load false 1 (.t 138), some (11, false)⟩ ::
      ⟨some 140, .bin .lss (.t 135) (.t 139), some (11, false)⟩ ::
      ⟨some 141, .pick (.t 131) (.c (.bool true)) (.t 140), none⟩ ::
      []))
    (.cond (.t 141) (c5_10) (.skip))))
  (c5_11)
def c5_13 : HCode :=
  .seq (.seq (.region none (⟨some 114, .mv 0 (.t 17), none⟩ ::
    ⟨some 115, .mv 1 (.t 14), none⟩ ::
    ⟨some 116, .len (.t 115), none⟩ ::
    ⟨some 117, .bin .lss (.t 114) (.t 116), none⟩ ::
    []))
  (.cond (.t 117) (.skip) (.exit 4)))
  (c5_12)
def c5_14 : HCode :=
  .seq (.region none (⟨some 17, .mv 0 (.c (.int .i64 0)), none⟩ ::
    []))
  (.block 4 (.loop (c5_13)))
def c5_15 : HCode :=
  .seq (.region none (⟨some 142, .call 20 [], none⟩ ::
    ⟨some 10, .mv 0 (.t 142), none⟩ ::
    []))
  (.ret)
def c5_16 : HCode :=
  .seq (.seq (.region none (⟨some 110, .mv 1 (.t 11), none⟩ ::
    ⟨some 111, .mv 1 (.t 12), none⟩ ::
    ⟨some 112, .mv 1 (.t 14), none⟩ ::
    ⟨some 113, .call 21 [(.t 110), (.t 111), (.t 112)], none⟩ ::
    []))
  (.cond (.t 113) (c5_14) (.skip)))
  (c5_15)
def c5_17 : HCode :=
  .seq (.seq (.region none (⟨some 16, .mv 0 (.c (.int .i64 0)), none⟩ ::
    []))
  (.block 2 (.loop (c5_9))))
  (c5_16)
def c5_18 : HCode :=
  .seq (.seq (.region none (⟨some 69, .mv 1 (.t 11), none⟩ ::
    ⟨some 70, .mv 1 (.t 12), none⟩ ::
    ⟨some 71, .mv 1 (.t 14), none⟩ ::
    ⟨some 72, .call 21 [(.t 69), (.t 70), (.t 71)], none⟩ ::
    ⟨some 73, .un .not (.t 72), none⟩ ::
    []))
  (.cond (.t 73) (c5_6) (.skip)))
  (c5_17)
def c5_19 : HCode :=
  .seq (.seq (.region none (⟨some 15, .mv 0 (.c (.int .i64 0)), none⟩ ::
    []))
  (.block 0 (.loop (c5_5))))
  (c5_18)
def c5_20 : HCode :=
  .seq (.region none (⟨some 40, .bsl 1 0 [], none⟩ ::
    ⟨some 41, .mv 1 (.t 13), none⟩ ::
    ⟨some 42, .app true 1 8 (.t 40) (.t 41), none⟩ ::
    ⟨some 14, .mv 1 (.t 42), none⟩ ::
    []))
  (c5_19)
def c5_21 : HCode :=
  .seq (.seq (.region none (⟨some 28, .mv 1 (.t 13), none⟩ ::
    ⟨some 29, .len (.t 28), none⟩ ::
    ⟨some 30, .mv 1 (.t 11), none⟩ ::
    ⟨some 31, .len (.t 30), none⟩ ::
    ⟨some 32, .bin .neq (.t 29) (.t 31), none⟩ ::
    ⟨some 33, .mv 0 (.t 32), none⟩ ::
    ⟨some 34, .mv 1 (.t 11), some (5, false)⟩ ::
    ⟨some 35, .mv 1 (.t 12), some (5, false)⟩ ::
    ⟨some 36, .mv 1 (.t 13), some (5, false)⟩ ::
    ⟨some 37, .call 21 [(.t 34), (.t 35), (.t 36)], some (5, false)⟩ ::
    ⟨some 38, .un .not (.t 37), some (5, false)⟩ ::
    ⟨some 39, .pick (.t 33) (.c (.bool true)) (.t 38), none⟩ ::
    []))
  (.cond (.t 39) (c5_1) (.skip)))
  (c5_20)
def c5_22 : HCode :=
  .seq (.region none (⟨some 25, .mv 1 (.t 11), none⟩ ::
    ⟨some 26, .mv 1 (.t 12), none⟩ ::
    ⟨some 27, .call 17 [(.t 25), (.t 26)], none⟩ ::
    ⟨some 13, .mv 1 (.t 27), none⟩ ::
    []))
  (c5_21)
def c5_23 : HCode :=
  .seq (.region none (⟨some 19, .mv 1 (.t 0), none⟩ ::
    ⟨some 20, .mv 0 (.t 1), none⟩ ::
    ⟨some 21, .call 13 [(.t 20), (.c (.int .i64 40))], none⟩ ::
    ⟨some 22, .call 12 [(.t 19), (.t 21)], none⟩ ::
    ⟨some 18, .mv 0 (.t 22), none⟩ ::
    ⟨some 23, .ext (.t 18) 0, none⟩ ::
    ⟨some 24, .ext (.t 18) 1, none⟩ ::
    ⟨some 11, .mv 1 (.t 23), none⟩ ::
    ⟨some 12, .mv 1 (.t 24), none⟩ ::
    []))
  (c5_22)
def c5 : HCode :=
  .seq (.region none (⟨some 10, .mv 0 (.c (.bool false)), none⟩ ::
    []))
  (c5_23)
theorem fc5 : funCode Try.prog 5 = some (c5, [10], 143) := by kernel_rfl

end Go.Proofs.Ytjlidhijnohkbaa
