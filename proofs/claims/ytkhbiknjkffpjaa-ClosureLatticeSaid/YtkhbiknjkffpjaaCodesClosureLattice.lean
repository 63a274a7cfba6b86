/-
  OWN WORK, written by my own program. The law's function in the value language, checked against the translation.
-/
import Derived.Test.YtkhbiknjkffpjaaHl4
import Derived.Test.YtkhbiknjkffpjaaProg
namespace Go.Proofs.Ytkhbiknjkffpjaa
open Go.HL
set_option maxRecDepth 100000
set_option linter.unusedVariables false
def c8_1 : HCode :=
  .seq (.region none (⟨some 6, .mv 0 (.c (.bool false)), none⟩ ::
    []))
  (.ret)
def c8_2 : HCode :=
  .seq (.region none (⟨some 6, .mv 0 (.c (.bool false)), none⟩ ::
    []))
  (.ret)
def c8_3 : HCode :=
  .seq (.region none (⟨some 93, .mv 1 (.t 9), none⟩ ::
    ⟨some 94, .mv 0 (.t 15), none⟩ ::
    ⟨some 95, .iaddr 1 (.t 93) (.t 94), none⟩ ::
    ⟨some 96, .load false 1 (.t 95), none⟩ ::
    ⟨some 97, .mv 0 (.t 96), none⟩ ::
    ⟨some 98, .mv 1 (.t 10), some (4, true)⟩ ::
    ⟨some 99, .mv 0 (.t 15), some (4, true)⟩ ::
    ⟨some 100, .iaddr 1 (.t 98) (.t 99), some (4, true)⟩ ::
    ⟨some 101, .load false 1 (.t 100), some (4, true)⟩ ::
    ⟨some 102, .un .not (.t 101), some (4, true)⟩ ::
    ⟨some 103, .pick (.t 97) (.t 102) (.c (.bool false)), none⟩ ::
    []))
  (.cond (.t 103) (c8_2) (.skip))
def c8_4 : HCode :=
  .seq (.region none (⟨some 79, .mv 0 (.t 14), none⟩ ::
    ⟨some 80, .mv 0 (.t 79), none⟩ ::
    ⟨some 81, .mv 1 (.t 11), some (1, true)⟩ ::
    ⟨some 82, .mv 0 (.t 15), some (1, true)⟩ ::
    ⟨some 83, .iaddr 1 (.t 81) (.t 82), some (1, true)⟩ ::
    ⟨some 84, .load false 1 (.t 83), some (1, true)⟩ ::
    ⟨some 85, .mv 0 (.t 84), some (1, true)⟩ ::
    ⟨some 86, .mv 1 (.t 9), some (6, false)⟩ ::
    ⟨some 87, .mv 0 (.t 15), some (6, false)⟩ ::
    ⟨some 88, .iaddr 1 (.t 86) (.t 87), some (6, false)⟩ ::
    ⟨some 89, .load false 1 (.t 88), some (6, false)⟩ ::
    ⟨some 90, .un .not (.t 89), some (6, false)⟩ ::
    ⟨some 91, .pick (.t 85) (.c (.bool true)) (.t 90), some (1, true)⟩ ::
    ⟨some 92, .pick (.t 80) (.t 91) (.c (.bool false)), none⟩ ::
    ⟨some 14, .mv 0 (.t 92), none⟩ ::
    []))
  (c8_3)
def c8_5 : HCode :=
  .seq (.region none (⟨some 66, .mv 1 (.t 13), none⟩ ::
    ⟨some 67, .mv 1 (.t 10), none⟩ ::
    ⟨some 68, .mv 0 (.t 15), none⟩ ::
    ⟨some 69, .iaddr 1 (.t 67) (.t 68), none⟩ ::
    ⟨some 70, .load false 1 (.t 69), none⟩ ::
    ⟨some 71, .mv 0 (.t 70), none⟩ ::
    ⟨some 72, .mv 1 (.t 11), some (5, false)⟩ ::
    ⟨some 73, .mv 0 (.t 15), some (5, false)⟩ ::
    ⟨some 74, .iaddr 1 (.t 72) (.t 73), some (5, false)⟩ ::
    ⟨some 75, .load false 1 (.t 74), some (5, false)⟩ ::
    ⟨some 76, .pick (.t 71) (.c (.bool true)) (.t 75), none⟩ ::
    ⟨some 77, .bsl 1 1 [(.t 76)], none⟩ ::
    ⟨some 78, .app true 1 1 (.t 66) (.t 77), none⟩ ::
    ⟨some 13, .mv 1 (.t 78), none⟩ ::
    []))
  (c8_4)
def c8_6 : HCode :=
  .region none (⟨some 51, .mv 0 (.t 15), none⟩ ::
    ⟨some 52, .bin .add (.t 51) (.c (.int .i64 1)), none⟩ ::
    ⟨some 15, .mv 0 (.t 52), none⟩ ::
    [])
def c8_7 : HCode :=
  .seq (.block 1 (.seq (.region none (⟨some 53, .mv 1 (.t 12), none⟩ ::
      ⟨some 54, .mv 1 (.t 10), none⟩ ::
      ⟨some 55, .mv 0 (.t 15), none⟩ ::
      ⟨some 56, .iaddr 1 (.t 54) (.t 55), none⟩ ::
      ⟨some 57, .load false 1 (.t 56), none⟩ ::
      ⟨some 58, .mv 0 (.t 57), none⟩ ::
      ⟨some 59, .mv 1 (.t 11), some (5, true)⟩ ::
      ⟨some 60, .mv 0 (.t 15), some (5, true)⟩ ::
      ⟨some 61, .iaddr 1 (.t 59) (.t 60), some (5, true)⟩ ::
      ⟨some 62, .load false 1 (.t 61), some (5, true)⟩ ::
      ⟨some 63, .pick (.t 58) (.t 62) (.c (.bool false)), none⟩ ::
      ⟨some 64, .bsl 1 1 [(.t 63)], none⟩ ::
      ⟨some 65, .app true 1 1 (.t 53) (.t 64), none⟩ ::
      ⟨some 12, .mv 1 (.t 65), none⟩ ::
      []))
    (c8_5)))
  (c8_6)
def c8_8 : HCode :=
  .seq (.seq (.region none (⟨some 47, .mv 0 (.t 15), none⟩ ::
    ⟨some 48, .mv 1 (.t 7), none⟩ ::
    ⟨some 49, .len (.t 48), none⟩ ::
    ⟨some 50, .bin .lss (.t 47) (.t 49), none⟩ ::
    []))
  (.cond (.t 50) (.skip) (.exit 0)))
  (c8_7)
def c8_9 : HCode :=
  .seq (.region none (⟨some 6, .mv 0 (.c (.bool false)), none⟩ ::
    []))
  (.ret)
def c8_10 : HCode :=
  .region none (⟨some 111, .mv 0 (.t 16), none⟩ ::
    ⟨some 112, .bin .add (.t 111) (.c (.int .i64 1)), none⟩ ::
    ⟨some 16, .mv 0 (.t 112), none⟩ ::
    [])
def c8_11 : HCode :=
  .seq (.block 3 (.seq (.region none (⟨some 113, .mv 1 (.t 10), none⟩ ::
      ⟨some 114, .mv 0 (.t 16), none⟩ ::
      ⟨some 115, .iaddr 1 (.t 113) (.t 114), none⟩ ::
      ⟨some 116, .load false 1 (.t 115), none⟩ ::
      ⟨some 117, .mv 0 (.t 116), none⟩ ::
      ⟨some 118, .mv 1 (.t 11), some (4, true)⟩ ::
      ⟨some 119, .mv 0 (.t 16), some (4, true)⟩ ::
      ⟨some 120, .iaddr 1 (.t 118) (.t 119), some (4, true)⟩ ::
      ⟨some 121, .load false 1 (.t 120), some (4, true)⟩ ::
      ⟨some 122, .un .not (.t 121), some (4, true)⟩ ::
      ⟨some 123, .pick (.t 117) (.t 122) (.c (.bool false)), none⟩ ::
      []))
    (.cond (.t 123) (c8_9) (.skip))))
  (c8_10)
def c8_12 : HCode :=
  .seq (.seq (.region none (⟨some 104, .mv 0 (.t 16), none⟩ ::
    ⟨some 105, .mv 1 (.t 7), none⟩ ::
    ⟨some 106, .len (.t 105), none⟩ ::
    ⟨some 107, .bin .lss (.t 104) (.t 106), none⟩ ::
    ⟨some 108, .mv 0 (.t 107), none⟩ ::
    ⟨some 109, .mv 0 (.t 14), some (4, true)⟩ ::
    ⟨some 110, .pick (.t 108) (.t 109) (.c (.bool false)), none⟩ ::
    []))
  (.cond (.t 110) (.skip) (.exit 2)))
  (c8_11)
def c8_13 : HCode :=
  .seq (.region none (⟨some 124, .mv 1 (.t 7), none⟩ ::
    ⟨some 125, .mv 1 (.t 10), none⟩ ::
    ⟨some 126, .call 15 [(.t 124), (.t 125)], none⟩ ::
    ⟨some 127, .mv 0 (.t 126), none⟩ ::
    ⟨some 128, .mv 1 (.t 7), some (3, true)⟩ ::
    ⟨some 129, .mv 1 (.t 12), some (3, true)⟩ ::
    ⟨some 130, .call 15 [(.t 128), (.t 129)], some (3, true)⟩ ::
    ⟨some 131, .pick (.t 127) (.t 130) (.c (.bool false)), none⟩ ::
    ⟨some 132, .mv 0 (.t 131), none⟩ ::
    ⟨some 133, .mv 1 (.t 7), some (8, true)⟩ ::
    ⟨some 134, .mv 1 (.t 13), some (8, true)⟩ ::
    ⟨some 135, .call 15 [(.t 133), (.t 134)], some (8, true)⟩ ::
    ⟨some 136, .pick (.t 132) (.t 135) (.c (.bool false)), none⟩ ::
    ⟨some 137, .mv 0 (.t 136), none⟩ ::
    ⟨some 138, .mv 1 (.t 7), some (13, true)⟩ ::
    ⟨some 139, .mv 1 (.t 10), some (13, true)⟩ ::
    ⟨some 140, .call 18 [(.t 138), (.t 139)], some (13, true)⟩ ::
    ⟨some 141, .mv 1 (.t 10), some (13, true)⟩ ::
    ⟨some 142, .call 17 [(.t 140), (.t 141)], some (13, true)⟩ ::
    ⟨some 143, .pick (.t 137) (.t 142) (.c (.bool false)), none⟩ ::
    ⟨some 144, .mv 0 (.t 143), none⟩ ::
    ⟨some 145, .call 21 [], some (20, true)⟩ ::
    ⟨some 146, .pick (.t 144) (.t 145) (.c (.bool false)), none⟩ ::
    ⟨some 6, .mv 0 (.t 146), none⟩ ::
    []))
  (.ret)
def c8_14 : HCode :=
  .seq (.seq (.region none (⟨some 16, .mv 0 (.c (.int .i64 0)), none⟩ ::
    []))
  (.block 2 (.loop (c8_12))))
  (c8_13)
def c8_15 : HCode :=
  .seq (.seq (.region none (⟨some 15, .mv 0 (.c (.int .i64 0)), none⟩ ::
    []))
  (.block 0 (.loop (c8_8))))
  (c8_14)
def c8_16 : HCode :=
  .seq (.region none (⟨some 14, .mv 0 (.c (.bool true)), none⟩ ::
    []))
  (c8_15)
def c8_17 : HCode :=
  .seq (.region none (⟨some 13, .mv 1 (.c (.nils)), none⟩ ::
    []))
  (c8_16)
def c8_18 : HCode :=
  .seq (.region none (⟨some 12, .mv 1 (.c (.nils)), none⟩ ::
    []))
  (c8_17)
def c8_19 : HCode :=
  .seq (.seq (.region none (⟨some 35, .mv 1 (.t 10), none⟩ ::
    ⟨some 36, .len (.t 35), none⟩ ::
    ⟨some 37, .mv 1 (.t 7), none⟩ ::
    ⟨some 38, .len (.t 37), none⟩ ::
    ⟨some 39, .bin .neq (.t 36) (.t 38), none⟩ ::
    ⟨some 40, .mv 0 (.t 39), none⟩ ::
    ⟨some 41, .mv 1 (.t 11), some (5, false)⟩ ::
    ⟨some 42, .len (.t 41), some (5, false)⟩ ::
    ⟨some 43, .mv 1 (.t 7), some (5, false)⟩ ::
    ⟨some 44, .len (.t 43), some (5, false)⟩ ::
    ⟨some 45, .bin .neq (.t 42) (.t 44), some (5, false)⟩ ::
    ⟨some 46, .pick (.t 40) (.c (.bool true)) (.t 45), none⟩ ::
    []))
  (.cond (.t 46) (c8_1) (.skip)))
  (c8_18)
def c8_20 : HCode :=
  .seq (.region none (⟨some 29, .mv 1 (.t 7), none⟩ ::
    ⟨some 30, .mv 1 (.t 7), none⟩ ::
    ⟨some 31, .len (.t 30), none⟩ ::
    ⟨some 32, .mv 0 (.t 2), none⟩ ::
    ⟨some 33, .call 12 [(.t 31), (.t 32)], none⟩ ::
    ⟨some 34, .call 18 [(.t 29), (.t 33)], none⟩ ::
    ⟨some 11, .mv 1 (.t 34), none⟩ ::
    []))
  (c8_19)
def c8_21 : HCode :=
  .seq (.region none (⟨some 26, .mv 1 (.t 7), none⟩ ::
    ⟨some 27, .mv 1 (.t 9), none⟩ ::
    ⟨some 28, .call 18 [(.t 26), (.t 27)], none⟩ ::
    ⟨some 10, .mv 1 (.t 28), none⟩ ::
    []))
  (c8_20)
def c8_22 : HCode :=
  .seq (.region none (⟨some 22, .mv 1 (.t 7), none⟩ ::
    ⟨some 23, .len (.t 22), none⟩ ::
    ⟨some 24, .mv 0 (.t 1), none⟩ ::
    ⟨some 25, .call 12 [(.t 23), (.t 24)], none⟩ ::
    ⟨some 9, .mv 1 (.t 25), none⟩ ::
    []))
  (c8_21)
def c8_23 : HCode :=
  .seq (.region none (⟨some 18, .mv 1 (.t 0), none⟩ ::
    ⟨some 19, .call 11 [(.t 18)], none⟩ ::
    ⟨some 17, .mv 0 (.t 19), none⟩ ::
    ⟨some 20, .ext (.t 17) 0, none⟩ ::
    ⟨some 21, .ext (.t 17) 1, none⟩ ::
    ⟨some 7, .mv 1 (.t 20), none⟩ ::
    ⟨some 8, .mv 1 (.t 21), none⟩ ::
    []))
  (c8_22)
def c8 : HCode :=
  .seq (.region none (⟨some 6, .mv 0 (.c (.bool false)), none⟩ ::
    []))
  (c8_23)
theorem fc8 : funCode Try.prog 8 = some (c8, [6], 147) := by kernel_rfl

end Go.Proofs.Ytkhbiknjkffpjaa
