/-
  OWN WORK, written by my own program. The law's function in the value language, checked against the translation.
-/
import Derived.Test.YtjlidhijnohkbaaHl4
import Derived.Test.YtjlidhijnohkbaaProg
namespace Go.Proofs.Ytjlidhijnohkbaa
open Go.HL
set_option maxRecDepth 100000
set_option linter.unusedVariables false
def c3_1 : HCode :=
  .seq (.region none (⟨some 10, .mv 0 (.c (.bool false)), none⟩ ::
    []))
  (.ret)
def c3_2 : HCode :=
  .seq (.region none (⟨some 10, .mv 0 (.c (.bool false)), none⟩ ::
    []))
  (.ret)
def c3_3 : HCode :=
  .region none (⟨some 73, .mv 1 (.t 13), none⟩ ::
    ⟨some 74, .bsl 1 1 [(.c (.nils))], none⟩ ::
    ⟨some 75, .app false 1 24 (.t 73) (.t 74), none⟩ ::
    ⟨some 13, .mv 1 (.t 75), none⟩ ::
    [])
def c3_4 : HCode :=
  .region none (⟨some 76, .mv 1 (.t 13), none⟩ ::
    ⟨some 77, .mv 0 (.t 15), none⟩ ::
    ⟨some 78, .bin .sub (.t 77) (.c (.int .i64 1)), none⟩ ::
    ⟨some 79, .bsl 1 1 [(.t 78)], none⟩ ::
    ⟨some 80, .bsl 1 1 [(.t 79)], none⟩ ::
    ⟨some 81, .app false 1 24 (.t 76) (.t 80), none⟩ ::
    ⟨some 13, .mv 1 (.t 81), none⟩ ::
    [])
def c3_5 : HCode :=
  .region none (⟨some 69, .mv 0 (.t 15), none⟩ ::
    ⟨some 70, .bin .add (.t 69) (.c (.int .i64 1)), none⟩ ::
    ⟨some 15, .mv 0 (.t 70), none⟩ ::
    [])
def c3_6 : HCode :=
  .seq (.block 1 (.seq (.region none (⟨some 71, .mv 0 (.t 15), none⟩ ::
      ⟨some 72, .bin .eql (.t 71) (.c (.int .i64 0)), none⟩ ::
      []))
    (.cond (.t 72) (c3_3) (c3_4))))
  (c3_5)
def c3_7 : HCode :=
  .seq (.seq (.region none (⟨some 66, .mv 0 (.t 15), none⟩ ::
    ⟨some 67, .mv 0 (.t 14), none⟩ ::
    ⟨some 68, .bin .lss (.t 66) (.t 67), none⟩ ::
    []))
  (.cond (.t 68) (.skip) (.exit 0)))
  (c3_6)
def c3_8 : HCode :=
  .seq (.region none (⟨some 88, .mv 1 (.t 16), none⟩ ::
    ⟨some 89, .len (.t 88), none⟩ ::
    ⟨some 90, .bin .eql (.t 89) (.c (.int .i64 0)), none⟩ ::
    ⟨some 91, .mv 0 (.t 90), none⟩ ::
    ⟨some 92, .mv 1 (.t 13), some (3, true)⟩ ::
    ⟨some 93, .mv 0 (.t 14), some (3, true)⟩ ::
    ⟨some 94, .mksl 1 1 [.bool false] (.t 93), some (3, true)⟩ ::
    ⟨some 95, .call 14 [(.t 92), (.t 94)], some (3, true)⟩ ::
    ⟨some 96, .un .not (.t 95), some (3, true)⟩ ::
    ⟨some 97, .pick (.t 91) (.t 96) (.c (.bool false)), none⟩ ::
    ⟨some 98, .mv 0 (.t 97), none⟩ ::
    ⟨some 99, .call 20 [], some (10, true)⟩ ::
    ⟨some 100, .pick (.t 98) (.t 99) (.c (.bool false)), none⟩ ::
    ⟨some 10, .mv 0 (.t 100), none⟩ ::
    []))
  (.ret)
def c3_9 : HCode :=
  .seq (.region none (⟨some 101, .mv 1 (.t 16), none⟩ ::
    ⟨some 102, .len (.t 101), none⟩ ::
    ⟨some 103, .mv 0 (.t 14), none⟩ ::
    ⟨some 104, .bin .eql (.t 102) (.t 103), none⟩ ::
    ⟨some 105, .mv 0 (.t 104), none⟩ ::
    ⟨some 106, .mv 1 (.t 16), some (4, true)⟩ ::
    ⟨some 107, .mv 0 (.t 14), some (4, true)⟩ ::
    ⟨some 108, .bin .sub (.t 107) (.c (.int .i64 1)), some (4, true)⟩ ::
    ⟨some 109, .iaddr 1 (.t 106) (.t 108), some (4, true)⟩ ::
    ⟨some 110, .load false 1 (.t 109), some (4, true)⟩ ::
    ⟨some 111, .mv 0 (.t 14), some (4, true)⟩ ::
    ⟨some 112, .bin .sub (.t 111) (.c (.int .i64 1)), some (4, true)⟩ ::
    ⟨some 113, .bin .eql (.t 110) (.t 112), some (4, true)⟩ ::
    ⟨some 114, .pick (.t 105) (.t 113) (.c (.bool false)), none⟩ ::
    ⟨some 115, .mv 0 (.t 114), none⟩ ::
    ⟨some 116, .mv 1 (.t 13), some (14, true)⟩ ::
    ⟨some 117, .mv 0 (.t 14), some (14, true)⟩ ::
    ⟨some 118, .bin .sub (.t 117) (.c (.int .i64 1)), some (14, true)⟩ ::
    ⟨some 119, .mksl 1 1 [.bool false] (.t 118), some (14, true)⟩ ::
    ⟨some 120, .call 17 [(.t 116), (.t 119)], some (14, true)⟩ ::
    ⟨some 121, .len (.t 120), some (14, true)⟩ ::
    ⟨some 122, .bin .eql (.t 121) (.c (.int .i64 0)), some (14, true)⟩ ::
    ⟨some 123, .pick (.t 115) (.t 122) (.c (.bool false)), none⟩ ::
    ⟨some 124, .mv 0 (.t 123), none⟩ ::
    ⟨some 125, .call 20 [], some (23, true)⟩ ::
    ⟨some 126, .pick (.t 124) (.t 125) (.c (.bool false)), none⟩ ::
    ⟨some 10, .mv 0 (.t 126), none⟩ ::
    []))
  (.ret)
def c3_10 : HCode :=
  .seq (.seq (.region none (⟨some 86, .mv 0 (.t 14), none⟩ ::
    ⟨some 87, .bin .gtr (.t 86) (.c (.int .i64 256)), none⟩ ::
    []))
  (.cond (.t 87) (c3_8) (.skip)))
  (c3_9)
def c3_11 : HCode :=
  .seq (.region none (⟨some 82, .mv 1 (.t 13), none⟩ ::
    ⟨some 83, .mv 0 (.t 14), none⟩ ::
    ⟨some 84, .mksl 1 1 [.bool false] (.t 83), none⟩ ::
    ⟨some 85, .call 17 [(.t 82), (.t 84)], none⟩ ::
    ⟨some 16, .mv 1 (.t 85), none⟩ ::
    []))
  (c3_10)
def c3_12 : HCode :=
  .seq (.seq (.region none (⟨some 15, .mv 0 (.c (.int .i64 0)), none⟩ ::
    []))
  (.block 0 (.loop (c3_7))))
  (c3_11)
def c3_13 : HCode :=
  .seq (.region none (⟨some 63, .mv 0 (.t 4), none⟩ ::
    ⟨some 64, .call 13 [(.t 63), (.c (.int .i64 5))], none⟩ ::
    ⟨some 65, .bin .add (.c (.int .i64 254)) (.t 64), none⟩ ::
    ⟨some 14, .mv 0 (.t 65), none⟩ ::
    []))
  (c3_12)
def c3_14 : HCode :=
  .seq (.region none (⟨some 13, .mv 1 (.c (.nils)), none⟩ ::
    []))
  (c3_13)
def c3_15 : HCode :=
  .seq (.seq (.region none (⟨some 41, .mv 1 (.t 2), none⟩ ::
    ⟨some 42, .mv 1 (.t 3), none⟩ ::
    ⟨some 43, .call 19 [(.t 41), (.t 42)], none⟩ ::
    ⟨some 44, .mv 0 (.t 43), none⟩ ::
    ⟨some 45, .mv 1 (.t 2), some (3, true)⟩ ::
    ⟨some 46, .mv 1 (.t 3), some (3, true)⟩ ::
    ⟨some 47, .call 14 [(.t 45), (.t 46)], some (3, true)⟩ ::
    ⟨some 48, .mv 1 (.t 2), some (3, true)⟩ ::
    ⟨some 49, .mv 1 (.t 3), some (3, true)⟩ ::
    ⟨some 50, .call 15 [(.t 48), (.t 49)], some (3, true)⟩ ::
    ⟨some 51, .beq true (.t 47) (.t 50), some (3, true)⟩ ::
    ⟨some 52, .mv 0 (.t 51), some (3, true)⟩ ::
    ⟨some 53, .mv 1 (.t 2), some (11, false)⟩ ::
    ⟨some 54, .mv 1 (.t 3), some (11, false)⟩ ::
    ⟨some 55, .call 17 [(.t 53), (.t 54)], some (11, false)⟩ ::
    ⟨some 56, .mv 1 (.t 2), some (11, false)⟩ ::
    ⟨some 57, .mv 1 (.t 3), some (11, false)⟩ ::
    ⟨some 58, .call 18 [(.t 56), (.t 57)], some (11, false)⟩ ::
    ⟨some 59, .call 16 [(.t 55), (.t 58)], some (11, false)⟩ ::
    ⟨some 60, .un .not (.t 59), some (11, false)⟩ ::
    ⟨some 61, .pick (.t 52) (.c (.bool true)) (.t 60), some (3, true)⟩ ::
    ⟨some 62, .pick (.t 44) (.t 61) (.c (.bool false)), none⟩ ::
    []))
  (.cond (.t 62) (c3_2) (.skip)))
  (c3_14)
def c3_16 : HCode :=
  .seq (.seq (.region none (⟨some 24, .mv 1 (.t 11), none⟩ ::
    ⟨some 25, .mv 1 (.t 12), none⟩ ::
    ⟨some 26, .call 14 [(.t 24), (.t 25)], none⟩ ::
    ⟨some 27, .mv 1 (.t 11), none⟩ ::
    ⟨some 28, .mv 1 (.t 12), none⟩ ::
    ⟨some 29, .call 15 [(.t 27), (.t 28)], none⟩ ::
    ⟨some 30, .beq true (.t 26) (.t 29), none⟩ ::
    ⟨some 31, .mv 0 (.t 30), none⟩ ::
    ⟨some 32, .mv 1 (.t 11), some (7, false)⟩ ::
    ⟨some 33, .mv 1 (.t 12), some (7, false)⟩ ::
    ⟨some 34, .call 17 [(.t 32), (.t 33)], some (7, false)⟩ ::
    ⟨some 35, .mv 1 (.t 11), some (7, false)⟩ ::
    ⟨some 36, .mv 1 (.t 12), some (7, false)⟩ ::
    ⟨some 37, .call 18 [(.t 35), (.t 36)], some (7, false)⟩ ::
    ⟨some 38, .call 16 [(.t 34), (.t 37)], some (7, false)⟩ ::
    ⟨some 39, .un .not (.t 38), some (7, false)⟩ ::
    ⟨some 40, .pick (.t 31) (.c (.bool true)) (.t 39), none⟩ ::
    []))
  (.cond (.t 40) (c3_1) (.skip)))
  (c3_15)
def c3_17 : HCode :=
  .seq (.region none (⟨some 18, .mv 1 (.t 0), none⟩ ::
    ⟨some 19, .mv 0 (.t 1), none⟩ ::
    ⟨some 20, .call 13 [(.t 19), (.c (.int .i64 257))], none⟩ ::
    ⟨some 21, .call 12 [(.t 18), (.t 20)], none⟩ ::
    ⟨some 17, .mv 0 (.t 21), none⟩ ::
    ⟨some 22, .ext (.t 17) 0, none⟩ ::
    ⟨some 23, .ext (.t 17) 1, none⟩ ::
    ⟨some 11, .mv 1 (.t 22), none⟩ ::
    ⟨some 12, .mv 1 (.t 23), none⟩ ::
    []))
  (c3_16)
def c3 : HCode :=
  .seq (.region none (⟨some 10, .mv 0 (.c (.bool false)), none⟩ ::
    []))
  (c3_17)
theorem fc3 : funCode Try.prog 3 = some (c3, [10], 127) := by kernel_rfl

end Go.Proofs.Ytjlidhijnohkbaa
