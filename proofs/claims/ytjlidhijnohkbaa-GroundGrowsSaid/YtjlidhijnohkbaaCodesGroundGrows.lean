/-
  OWN WORK, written by my own program. The law's function in the value language, checked against the translation.
-/
import Derived.Test.YtjlidhijnohkbaaHl4
import Derived.Test.YtjlidhijnohkbaaProg
namespace Go.Proofs.Ytjlidhijnohkbaa
open Go.HL
set_option maxRecDepth 100000
set_option linter.unusedVariables false
def c9_1 : HCode :=
  .seq (.region none (⟨some 8, .mv 0 (.c (.bool false)), none⟩ ::
    []))
  (.ret)
def c9_2 : HCode :=
  .seq (.region none (⟨some 8, .mv 0 (.c (.bool false)), none⟩ ::
    []))
  (.ret)
def c9_3 : HCode :=
  .seq (.region none (⟨some 8, .mv 0 (.c (.bool false)), none⟩ ::
    []))
  (.ret)
def c9_4 : HCode :=
  .seq (.region none (⟨some 128, .mv 1 (.t 17), none⟩ ::
    ⟨some 129, .mv 0 (.t 18), none⟩ ::
    ⟨some 130, .iaddr 1 (.t 128) (.t 129), none⟩ ::
    ⟨some 131, .load false 1 (.t 130), none⟩ ::
    ⟨some 132, .bin .geq (.t 131) (.c (.int .i64 0)), none⟩ ::
    ⟨some 133, .mv 0 (.t 132), none⟩ ::
    ⟨some 134, .mv 0 (.t 18), some (5, true)⟩ ::
    ⟨some 135, .mv 0 (.t 12), some (5, true)⟩ ::
    ⟨some 136, .bin .eql (.t 134) (.t 135), some (5, true)⟩ ::
    ⟨some 137, .mv 0 (.t 136), some (5, true)⟩ ::
    ⟨some 138, .mv 1 (.t 9), some (9, false)⟩ ::
    ⟨some 139, .mv 0 (.t 18), some (9, false)⟩ ::
    ⟨some 140, .iaddr 1 (.t 138) (.t 139), some (9, false)⟩ ::
    ⟨some 141, .load false 1 (.t 140), some (9, false)⟩ ::
    ⟨some 142, .mv 0 (.t 12), some (9, false)⟩ ::
    ⟨some 143, .call 29 [(.t 141), (.t 142)], some (9, false)⟩ ::
    ⟨some 144, .pick (.t 137) (.c (.bool true)) (.t 143), some (5, true)⟩ ::
    ⟨some 145, .pick (.t 133) (.t 144) (.c (.bool false)), none⟩ ::
    []))
  (.cond (.t 145) (c9_3) (.skip))
def c9_5 : HCode :=
  .region none (⟨some 85, .mv 0 (.t 18), none⟩ ::
    ⟨some 86, .bin .add (.t 85) (.c (.int .i64 1)), none⟩ ::
    ⟨some 18, .mv 0 (.t 86), none⟩ ::
    [])
def c9_6 : HCode :=
  .seq (.block 1 (.seq (.seq (.region (some [0, 0, 3, 7, 15, 31, 63, 63, 255, 511, 1023, 2047, 4095, 4095, 16383, 32767, 4095, 4095, 200703, 462847, 1048575, 2097151, 4194303, 8388607, 16777215, 16777215, 67108863, 134217727, 268435455, 536870911, 1073741823, 1073741823, 4294967295, 8589934591, 1073741823, 1073741823, 52613349375, 121332826111, 274877906943, 549755813887, 1099511627775]) (⟨some 87, .mv 1 (.t 16), none⟩ ::
      ⟨some 88, .mv 0 (.t 18), none⟩ ::
      ⟨some 89, .iaddr 1 (.t 87) (.t 88), none⟩ ::
      ⟨some 90, .load false 1 (.t 89), none⟩ ::
      ⟨some 91, .bin .geq (.t 90) (.c (.int .i64 0)), none⟩ ::
      ⟨some 92, .mv 0 (.t 91), none⟩ ::
      ⟨some 93, .mv 1 (.t 13), some (5, true)⟩ ::
      ⟨some 94, .mv 0 (.t 18), some (5, true)⟩ ::
      ⟨some 95, .iaddr 1 (.t 93) (.t 94), some (5, true)⟩ ::
      ⟨some 96, .load false 1 (.t 95), some (5, true)⟩ ::
      ⟨some 97, .bin .lss (.t 96) (.c (.int .i64 0)), some (5, true)⟩ ::
      ⟨some 98, .mv 0 (.t 97), some (5, true)⟩ ::
      ⟨some 99, .mv 1 (.t 16), some (11, false)⟩ ::
      ⟨some 100, .mv 0 (.t 18), some (11, false)⟩ ::
      ⟨some 101, .iaddr 1 (.t 99) (.t 100), some (11, false)⟩ ::
      ⟨some 102, .load false 1 (.t 101), some (11, false)⟩ ::
      ⟨some 103, .mv 1 (.t 13), some (11, false)⟩ ::
      ⟨some 104, .mv 0 (.t 18), some (11, false)⟩ ::
      ⟨some 105, .iaddr 1 (.t 103) (.t 104), some (11, false)⟩ ::
      ⟨some 106, .load false 1 (.t 105), some (11, false)⟩ ::
      ⟨some 107, .bin .lss (.t 102) (.t 106), some (11, false)⟩ ::
      ⟨some 108, .pick (.t 98) (.c (.bool true)) (.t 107), some (5, true)⟩ ::
      ⟨some 109, .pick (.t 92) (.t 108) (.c (.bool false)), none⟩ ::
      ⟨some 110, .mv 0 (.t 109), none⟩ ::
      ⟨some 111, .mv 1 (.t 17), some (23, false)⟩ ::
      ⟨some 112, .mv 0 (.t 18), some (23, false)⟩ ::
      ⟨some 113, .iaddr 1 (.t 111) (.t 112), some (23, false)⟩ ::
      ⟨some 114, .load false 1 (.t 113), some (23, false)⟩ ::
      ⟨some 115, .bin .geq (.t 114) (.c (.int .i64 0)), some (23, false)⟩ ::
      ⟨some 116, .mv 0 (.t 115), some (23, false)⟩ ::
      ⟨some 117, .mv 1 (.t 17), some (29, true)⟩ ::
      ⟨some 118, .mv 0 (.t 18), some (29, true)⟩ ::
      ⟨some 119, .iaddr 1 (.t 117) (.t 118), some (29, true)⟩ ::
      ⟨some 120, .load false 1 (.t 119), some (29, true)⟩ ::
      ⟨some 121, .mv 1 (.t 13), some (29, true)⟩ ::
      ⟨some 122, .mv 0 (.t 18), some (29, true)⟩ ::
      ⟨some 123, .iaddr 1 (.t 121) (.t 122), some (29, true)⟩ ::
      ⟨some 124, .load false 1 (.t 123), some (29, true)⟩ ::
      ⟨some 125, .bin .neq (.t 120) (.t 124), some (29, true)⟩ ::
      ⟨some 126, .pick (.t 116) (.t 125) (.c (.bool false)), some (23, false)⟩ ::
      ⟨some 127, .pick (.t 110) (.c (.bool true)) (.t 126), none⟩ ::
      []))
    (.cond (.t 127) (c9_2) (.skip)))
    (c9_4)))
  (c9_5)
def c9_7 : HCode :=
  .seq (.seq (.region none (⟨some 81, .mv 0 (.t 18), none⟩ ::
    ⟨some 82, .mv 1 (.t 9), none⟩ ::
    ⟨some 83, .len (.t 82), none⟩ ::
    ⟨some 84, .bin .lss (.t 81) (.t 83), none⟩ ::
    []))
  (.cond (.t 84) (.skip) (.exit 0)))
  (c9_6)
def c9_8 : HCode :=
  .seq (.region none (⟨some 146, .call 20 [], none⟩ ::
    ⟨some 8, .mv 0 (.t 146), none⟩ ::
    []))
  (.ret)
def c9_9 : HCode :=
  .seq (.seq (.region none (⟨some 18, .mv 0 (.c (.int .i64 0)), none⟩ ::
    []))
  (.block 0 (.loop (c9_7))))
  (c9_8)
def c9_10 : HCode :=
  .seq (.seq (.region none (⟨some 62, .mv 1 (.t 13), none⟩ ::
    ⟨some 63, .len (.t 62), none⟩ ::
    ⟨some 64, .mv 1 (.t 9), none⟩ ::
    ⟨some 65, .len (.t 64), none⟩ ::
    ⟨some 66, .bin .neq (.t 63) (.t 65), none⟩ ::
    ⟨some 67, .mv 0 (.t 66), none⟩ ::
    ⟨some 68, .mv 1 (.t 16), some (5, false)⟩ ::
    ⟨some 69, .len (.t 68), some (5, false)⟩ ::
    ⟨some 70, .mv 1 (.t 9), some (5, false)⟩ ::
    ⟨some 71, .len (.t 70), some (5, false)⟩ ::
    ⟨some 72, .bin .neq (.t 69) (.t 71), some (5, false)⟩ ::
    ⟨some 73, .pick (.t 67) (.c (.bool true)) (.t 72), none⟩ ::
    ⟨some 74, .mv 0 (.t 73), none⟩ ::
    ⟨some 75, .mv 1 (.t 17), some (12, false)⟩ ::
    ⟨some 76, .len (.t 75), some (12, false)⟩ ::
    ⟨some 77, .mv 1 (.t 9), some (12, false)⟩ ::
    ⟨some 78, .len (.t 77), some (12, false)⟩ ::
    ⟨some 79, .bin .neq (.t 76) (.t 78), some (12, false)⟩ ::
    ⟨some 80, .pick (.t 74) (.c (.bool true)) (.t 79), none⟩ ::
    []))
  (.cond (.t 80) (c9_1) (.skip)))
  (c9_9)
def c9_11 : HCode :=
  .seq (.region none (⟨some 59, .mv 1 (.t 9), none⟩ ::
    ⟨some 60, .mv 1 (.t 15), none⟩ ::
    ⟨some 61, .call 17 [(.t 59), (.t 60)], none⟩ ::
    ⟨some 17, .mv 1 (.t 61), none⟩ ::
    []))
  (c9_10)
def c9_12 : HCode :=
  .seq (.region none (⟨some 56, .mv 1 (.t 14), none⟩ ::
    ⟨some 57, .mv 1 (.t 10), none⟩ ::
    ⟨some 58, .call 17 [(.t 56), (.t 57)], none⟩ ::
    ⟨some 16, .mv 1 (.t 58), none⟩ ::
    []))
  (c9_11)
def c9_13 : HCode :=
  .seq (.region none (⟨some 53, .mv 1 (.t 15), none⟩ ::
    ⟨some 54, .mv 0 (.t 12), none⟩ ::
    ⟨some 55, .iaddr 1 (.t 53) (.t 54), none⟩ ::
    ⟨none, .store true 1 (.t 55) (.c (.bool true)), none⟩ ::
    []))
  (c9_12)
def c9_14 : HCode :=
  .seq (.region none (⟨some 50, .bsl 1 0 [], none⟩ ::
    ⟨some 51, .mv 1 (.t 10), none⟩ ::
    ⟨some 52, .app true 1 1 (.t 50) (.t 51), none⟩ ::
    ⟨some 15, .mv 1 (.t 52), none⟩ ::
    []))
  (c9_13)
def c9_15 : HCode :=
  .seq (.region none (⟨some 41, .mv 1 (.t 14), none⟩ ::
    ⟨some 42, .mv 0 (.t 11), none⟩ ::
    ⟨some 43, .mv 1 (.t 9), none⟩ ::
    ⟨some 44, .mv 0 (.t 11), none⟩ ::
    ⟨some 45, .iaddr 1 (.t 43) (.t 44), none⟩ ::
    ⟨some 46, .load false 1 (.t 45), none⟩ ::
    ⟨some 47, .mv 0 (.t 12), none⟩ ::
    ⟨some 48, .call 30 [(.t 46), (.t 47)], none⟩ ::
    ⟨some 49, .iaddr 1 (.t 41) (.t 42), none⟩ ::
    ⟨none, .store false 1 (.t 49) (.t 48), none⟩ ::
    []))
  (c9_14)
def c9_16 : HCode :=
  .seq (.region none (⟨some 38, .bsl 1 0 [], none⟩ ::
    ⟨some 39, .mv 1 (.t 9), none⟩ ::
    ⟨some 40, .app false 1 24 (.t 38) (.t 39), none⟩ ::
    ⟨some 14, .mv 1 (.t 40), none⟩ ::
    []))
  (c9_15)
def c9_17 : HCode :=
  .seq (.region none (⟨some 35, .mv 1 (.t 9), none⟩ ::
    ⟨some 36, .mv 1 (.t 10), none⟩ ::
    ⟨some 37, .call 17 [(.t 35), (.t 36)], none⟩ ::
    ⟨some 13, .mv 1 (.t 37), none⟩ ::
    []))
  (c9_16)
def c9_18 : HCode :=
  .seq (.region none (⟨some 31, .mv 0 (.t 3), none⟩ ::
    ⟨some 32, .mv 1 (.t 9), none⟩ ::
    ⟨some 33, .len (.t 32), none⟩ ::
    ⟨some 34, .call 13 [(.t 31), (.t 33)], none⟩ ::
    ⟨some 12, .mv 0 (.t 34), none⟩ ::
    []))
  (c9_17)
def c9_19 : HCode :=
  .seq (.region none (⟨some 27, .mv 0 (.t 2), none⟩ ::
    ⟨some 28, .mv 1 (.t 9), none⟩ ::
    ⟨some 29, .len (.t 28), none⟩ ::
    ⟨some 30, .call 13 [(.t 27), (.t 29)], none⟩ ::
    ⟨some 11, .mv 0 (.t 30), none⟩ ::
    []))
  (c9_18)
def c9_20 : HCode :=
  .seq (.region none (⟨some 20, .mv 1 (.t 0), none⟩ ::
    ⟨some 21, .mv 0 (.t 1), none⟩ ::
    ⟨some 22, .call 13 [(.t 21), (.c (.int .i64 60))], none⟩ ::
    ⟨some 23, .bin .add (.c (.int .i64 1)) (.t 22), none⟩ ::
    ⟨some 24, .call 12 [(.t 20), (.t 23)], none⟩ ::
    ⟨some 19, .mv 0 (.t 24), none⟩ ::
    ⟨some 25, .ext (.t 19) 0, none⟩ ::
    ⟨some 26, .ext (.t 19) 1, none⟩ ::
    ⟨some 9, .mv 1 (.t 25), none⟩ ::
    ⟨some 10, .mv 1 (.t 26), none⟩ ::
    []))
  (c9_19)
def c9 : HCode :=
  .seq (.region none (⟨some 8, .mv 0 (.c (.bool false)), none⟩ ::
    []))
  (c9_20)
theorem fc9 : funCode Try.prog 9 = some (c9, [8], 147) := by kernel_rfl

end Go.Proofs.Ytjlidhijnohkbaa
