/-
  OWN WORK, written by my own program. The law's function in the value language, checked against the translation.
-/
import Derived.Test.YtjlidhijnohkbaaHl4
import Derived.Test.YtjlidhijnohkbaaProg
namespace Go.Proofs.Ytjlidhijnohkbaa
open Go.HL
set_option maxRecDepth 100000
set_option linter.unusedVariables false
def c10_1 : HCode :=
  .region none (⟨some 42, .mv 0 (.t 12), none⟩ ::
    ⟨some 43, .bin .add (.t 42) (.c (.int .i64 1)), none⟩ ::
    ⟨some 12, .mv 0 (.t 43), none⟩ ::
    [])
def c10_2 : HCode :=
  .seq (.block 3 (.region none (⟨some 44, .mv 1 (.t 11), none⟩ ::
      ⟨some 45, .mv 1 (.t 5), none⟩ ::
      ⟨some 46, .len (.t 45), none⟩ ::
      ⟨some 47, .bin .sub (.t 46) (.c (.int .i64 1)), none⟩ ::
      ⟨some 48, .mv 1 (.t 5), none⟩ ::
      ⟨some 49, .mv 0 (.t 10), none⟩ ::
      ⟨some 50, .iaddr 1 (.t 48) (.t 49), none⟩ ::
      ⟨some 51, .load false 1 (.t 50), none⟩ ::
      ⟨some 52, .mv 0 (.t 12), none⟩ ::
      ⟨some 53, .iaddr 1 (.t 51) (.t 52), none⟩ ::
      ⟨some 54, .load false 1 (.t 53), none⟩ ::
      ⟨some 55, .bin .sub (.t 47) (.t 54), none⟩ ::
      ⟨some 56, .call 30 [(.t 44), (.t 55)], none⟩ ::
      ⟨some 11, .mv 1 (.t 56), none⟩ ::
      [])))
  (c10_1)
def c10_3 : HCode :=
  .seq (.seq (.region none (⟨some 35, .mv 0 (.t 12), none⟩ ::
    ⟨some 36, .mv 1 (.t 5), none⟩ ::
    ⟨some 37, .mv 0 (.t 10), none⟩ ::
    ⟨some 38, .iaddr 1 (.t 36) (.t 37), none⟩ ::
    ⟨some 39, .load false 1 (.t 38), none⟩ ::
    ⟨some 40, .len (.t 39), none⟩ ::
    ⟨some 41, .bin .lss (.t 35) (.t 40), none⟩ ::
    []))
  (.cond (.t 41) (.skip) (.exit 2)))
  (c10_2)
def c10_4 : HCode :=
  .region none (⟨some 61, .mv 1 (.t 8), none⟩ ::
    ⟨some 62, .mv 1 (.t 6), none⟩ ::
    ⟨some 63, .mv 0 (.t 10), none⟩ ::
    ⟨some 64, .iaddr 1 (.t 62) (.t 63), none⟩ ::
    ⟨some 65, .load false 1 (.t 64), none⟩ ::
    ⟨some 66, .bsl 1 1 [(.t 65)], none⟩ ::
    ⟨some 67, .app true 1 1 (.t 61) (.t 66), none⟩ ::
    ⟨some 8, .mv 1 (.t 67), none⟩ ::
    [])
def c10_5 : HCode :=
  .seq (.region none (⟨some 57, .mv 1 (.t 7), none⟩ ::
    ⟨some 58, .mv 1 (.t 11), none⟩ ::
    ⟨some 59, .bsl 1 1 [(.t 58)], none⟩ ::
    ⟨some 60, .app false 1 24 (.t 57) (.t 59), none⟩ ::
    ⟨some 7, .mv 1 (.t 60), none⟩ ::
    []))
  (c10_4)
def c10_6 : HCode :=
  .seq (.seq (.region none (⟨some 12, .mv 0 (.c (.int .i64 0)), none⟩ ::
    []))
  (.block 2 (.loop (c10_3))))
  (c10_5)
def c10_7 : HCode :=
  .seq (.region none (⟨some 11, .mv 1 (.c (.nils)), none⟩ ::
    []))
  (c10_6)
def c10_8 : HCode :=
  .region none (⟨some 28, .mv 0 (.t 9), none⟩ ::
    ⟨some 29, .bin .add (.t 28) (.c (.int .i64 1)), none⟩ ::
    ⟨some 9, .mv 0 (.t 29), none⟩ ::
    [])
def c10_9 : HCode :=
  .seq (.block 1 (.seq (.region none (⟨some 30, .mv 1 (.t 5), none⟩ ::
      ⟨some 31, .len (.t 30), none⟩ ::
      ⟨some 32, .bin .sub (.t 31) (.c (.int .i64 1)), none⟩ ::
      ⟨some 33, .mv 0 (.t 9), none⟩ ::
      ⟨some 34, .bin .sub (.t 32) (.t 33), none⟩ ::
      ⟨some 10, .mv 0 (.t 34), none⟩ ::
      []))
    (c10_7)))
  (c10_8)
def c10_10 : HCode :=
  .seq (.seq (.region none (⟨some 24, .mv 0 (.t 9), none⟩ ::
    ⟨some 25, .mv 1 (.t 5), none⟩ ::
    ⟨some 26, .len (.t 25), none⟩ ::
    ⟨some 27, .bin .lss (.t 24) (.t 26), none⟩ ::
    []))
  (.cond (.t 27) (.skip) (.exit 0)))
  (c10_9)
def c10_11 : HCode :=
  .seq (.region none (⟨some 4, .mv 0 (.c (.bool false)), none⟩ ::
    []))
  (.ret)
def c10_12 : HCode :=
  .seq (.region none (⟨some 4, .mv 0 (.c (.bool false)), none⟩ ::
    []))
  (.ret)
def c10_13 : HCode :=
  .seq (.region (some [0, 0, 3, 7, 0, 0, 48, 112, 255, 511, 1023, 1023, 1023, 8191, 16383, 1023, 1023, 1023, 245759, 507903, 1048575, 2097151]) (⟨some 97, .mv 1 (.t 13), none⟩ ::
    ⟨some 98, .mv 0 (.t 15), none⟩ ::
    ⟨some 99, .iaddr 1 (.t 97) (.t 98), none⟩ ::
    ⟨some 100, .load false 1 (.t 99), none⟩ ::
    ⟨some 101, .mv 1 (.t 14), none⟩ ::
    ⟨some 102, .mv 0 (.t 16), none⟩ ::
    ⟨some 103, .iaddr 1 (.t 101) (.t 102), none⟩ ::
    ⟨some 104, .load false 1 (.t 103), none⟩ ::
    ⟨some 105, .bin .neq (.t 100) (.t 104), none⟩ ::
    ⟨some 106, .mv 0 (.t 105), none⟩ ::
    ⟨some 107, .mv 1 (.t 5), some (9, false)⟩ ::
    ⟨some 108, .mv 1 (.t 6), some (9, false)⟩ ::
    ⟨some 109, .mv 0 (.t 15), some (9, false)⟩ ::
    ⟨some 110, .call 24 [(.t 107), (.t 108), (.t 109)], some (9, false)⟩ ::
    ⟨some 111, .len (.t 110), some (9, false)⟩ ::
    ⟨some 112, .mv 1 (.t 7), some (9, false)⟩ ::
    ⟨some 113, .mv 1 (.t 8), some (9, false)⟩ ::
    ⟨some 114, .mv 0 (.t 16), some (9, false)⟩ ::
    ⟨some 115, .call 24 [(.t 112), (.t 113), (.t 114)], some (9, false)⟩ ::
    ⟨some 116, .len (.t 115), some (9, false)⟩ ::
    ⟨some 117, .bin .neq (.t 111) (.t 116), some (9, false)⟩ ::
    ⟨some 118, .pick (.t 106) (.c (.bool true)) (.t 117), none⟩ ::
    []))
  (.cond (.t 118) (c10_12) (.skip))
def c10_14 : HCode :=
  .region none (⟨some 90, .mv 0 (.t 15), none⟩ ::
    ⟨some 91, .bin .add (.t 90) (.c (.int .i64 1)), none⟩ ::
    ⟨some 15, .mv 0 (.t 91), none⟩ ::
    [])
def c10_15 : HCode :=
  .seq (.block 5 (.seq (.region none (⟨some 92, .mv 1 (.t 5), none⟩ ::
      ⟨some 93, .len (.t 92), none⟩ ::
      ⟨some 94, .bin .sub (.t 93) (.c (.int .i64 1)), none⟩ ::
      ⟨some 95, .mv 0 (.t 15), none⟩ ::
      ⟨some 96, .bin .sub (.t 94) (.t 95), none⟩ ::
      ⟨some 16, .mv 0 (.t 96), none⟩ ::
      []))
    (c10_13)))
  (c10_14)
def c10_16 : HCode :=
  .seq (.seq (.region none (⟨some 86, .mv 0 (.t 15), none⟩ ::
    ⟨some 87, .mv 1 (.t 5), none⟩ ::
    ⟨some 88, .len (.t 87), none⟩ ::
    ⟨some 89, .bin .lss (.t 86) (.t 88), none⟩ ::
    []))
  (.cond (.t 89) (.skip) (.exit 4)))
  (c10_15)
def c10_17 : HCode :=
  .seq (.region none (⟨some 119, .mv 1 (.t 5), none⟩ ::
    ⟨some 120, .mv 1 (.t 6), none⟩ ::
    ⟨some 121, .call 27 [(.t 119), (.t 120)], none⟩ ::
    ⟨some 122, .len (.t 121), none⟩ ::
    ⟨some 123, .mv 1 (.t 7), none⟩ ::
    ⟨some 124, .mv 1 (.t 8), none⟩ ::
    ⟨some 125, .call 27 [(.t 123), (.t 124)], none⟩ ::
    ⟨some 126, .len (.t 125), none⟩ ::
    ⟨some 127, .bin .eql (.t 122) (.t 126), none⟩ ::
    ⟨some 128, .mv 0 (.t 127), none⟩ ::
    ⟨some 129, .call 20 [], some (9, true)⟩ ::
    ⟨some 130, .pick (.t 128) (.t 129) (.c (.bool false)), none⟩ ::
    ⟨some 4, .mv 0 (.t 130), none⟩ ::
    []))
  (.ret)
def c10_18 : HCode :=
  .seq (.seq (.region none (⟨some 15, .mv 0 (.c (.int .i64 0)), none⟩ ::
    []))
  (.block 4 (.loop (c10_16))))
  (c10_17)
def c10_19 : HCode :=
  .seq (.seq (.region none (⟨some 74, .mv 1 (.t 13), none⟩ ::
    ⟨some 75, .len (.t 74), none⟩ ::
    ⟨some 76, .mv 1 (.t 5), none⟩ ::
    ⟨some 77, .len (.t 76), none⟩ ::
    ⟨some 78, .bin .neq (.t 75) (.t 77), none⟩ ::
    ⟨some 79, .mv 0 (.t 78), none⟩ ::
    ⟨some 80, .mv 1 (.t 14), some (5, false)⟩ ::
    ⟨some 81, .len (.t 80), some (5, false)⟩ ::
    ⟨some 82, .mv 1 (.t 5), some (5, false)⟩ ::
    ⟨some 83, .len (.t 82), some (5, false)⟩ ::
    ⟨some 84, .bin .neq (.t 81) (.t 83), some (5, false)⟩ ::
    ⟨some 85, .pick (.t 79) (.c (.bool true)) (.t 84), none⟩ ::
    []))
  (.cond (.t 85) (c10_11) (.skip)))
  (c10_18)
def c10_20 : HCode :=
  .seq (.region none (⟨some 71, .mv 1 (.t 7), none⟩ ::
    ⟨some 72, .mv 1 (.t 8), none⟩ ::
    ⟨some 73, .call 17 [(.t 71), (.t 72)], none⟩ ::
    ⟨some 14, .mv 1 (.t 73), none⟩ ::
    []))
  (c10_19)
def c10_21 : HCode :=
  .seq (.region none (⟨some 68, .mv 1 (.t 5), none⟩ ::
    ⟨some 69, .mv 1 (.t 6), none⟩ ::
    ⟨some 70, .call 17 [(.t 68), (.t 69)], none⟩ ::
    ⟨some 13, .mv 1 (.t 70), none⟩ ::
    []))
  (c10_20)
def c10_22 : HCode :=
  .seq (.seq (.region none (⟨some 9, .mv 0 (.c (.int .i64 0)), none⟩ ::
    []))
  (.block 0 (.loop (c10_10))))
  (c10_21)
def c10_23 : HCode :=
  .seq (.region none (⟨some 8, .mv 1 (.c (.nils)), none⟩ ::
    []))
  (c10_22)
def c10_24 : HCode :=
  .seq (.region none (⟨some 7, .mv 1 (.c (.nils)), none⟩ ::
    []))
  (c10_23)
def c10_25 : HCode :=
  .seq (.region none (⟨some 18, .mv 1 (.t 0), none⟩ ::
    ⟨some 19, .mv 0 (.t 1), none⟩ ::
    ⟨some 20, .call 13 [(.t 19), (.c (.int .i64 40))], none⟩ ::
    ⟨some 21, .call 12 [(.t 18), (.t 20)], none⟩ ::
    ⟨some 17, .mv 0 (.t 21), none⟩ ::
    ⟨some 22, .ext (.t 17) 0, none⟩ ::
    ⟨some 23, .ext (.t 17) 1, none⟩ ::
    ⟨some 5, .mv 1 (.t 22), none⟩ ::
    ⟨some 6, .mv 1 (.t 23), none⟩ ::
    []))
  (c10_24)
def c10 : HCode :=
  .seq (.region none (⟨some 4, .mv 0 (.c (.bool false)), none⟩ ::
    []))
  (c10_25)
theorem fc10 : funCode Try.prog 10 = some (c10, [4], 131) := by kernel_rfl

end Go.Proofs.Ytjlidhijnohkbaa
