/-
  OWN WORK, written by my own program. The law's function in the value language, checked against the translation.
-/
import Derived.Test.YtjlidhijnohkbaaHl4
import Derived.Test.YtjlidhijnohkbaaProg
namespace Go.Proofs.Ytjlidhijnohkbaa
open Go.HL
set_option maxRecDepth 100000
set_option linter.unusedVariables false
def c4_1 : HCode :=
  .seq (.region none (⟨some 10, .mv 0 (.c (.bool false)), none⟩ ::
    []))
  (.ret)
def c4_2 : HCode :=
  .seq (.region none (⟨some 10, .mv 0 (.c (.bool false)), none⟩ ::
    []))
  (.ret)
def c4_3 : HCode :=
  .seq (.region none (⟨some 79, .mv 1 (.t 11), none⟩ ::
    ⟨some 80, .mv 1 (.t 12), none⟩ ::
    ⟨some 81, .mv 1 (.t 13), none⟩ ::
    ⟨some 82, .call 21 [(.t 79), (.t 80), (.t 81)], none⟩ ::
    ⟨some 83, .mv 1 (.t 11), none⟩ ::
    ⟨some 84, .mv 1 (.t 12), none⟩ ::
    ⟨some 85, .mv 1 (.t 13), none⟩ ::
    ⟨some 86, .call 22 [(.t 83), (.t 84), (.t 85)], none⟩ ::
    ⟨some 87, .beq true (.t 82) (.t 86), none⟩ ::
    []))
  (.cond (.t 87) (c4_2) (.skip))
def c4_4 : HCode :=
  .seq (.region (some [0, 0, 0, 0, 12, 28, 0, 0, 192, 448, 960, 2044, 4092, 8191, 16383]) (⟨some 65, .mv 1 (.t 13), none⟩ ::
    ⟨some 66, .mv 0 (.t 15), none⟩ ::
    ⟨some 67, .mv 1 (.t 13), none⟩ ::
    ⟨some 68, .mv 0 (.t 15), none⟩ ::
    ⟨some 69, .iaddr 1 (.t 67) (.t 68), none⟩ ::
    ⟨some 70, .load false 1 (.t 69), none⟩ ::
    ⟨some 71, .mv 1 (.t 3), none⟩ ::
    ⟨some 72, .mv 0 (.t 14), none⟩ ::
    ⟨some 73, .iaddr 1 (.t 71) (.t 72), none⟩ ::
    ⟨some 74, .load false 1 (.t 73), none⟩ ::
    ⟨some 75, .call 13 [(.t 74), (.c (.int .i64 5))], none⟩ ::
    ⟨some 76, .bin .add (.t 70) (.t 75), none⟩ ::
    ⟨some 77, .bin .sub (.t 76) (.c (.int .i64 2)), none⟩ ::
    ⟨some 78, .iaddr 1 (.t 65) (.t 66), none⟩ ::
    ⟨none, .store true 1 (.t 78) (.t 77), none⟩ ::
    []))
  (c4_3)
def c4_5 : HCode :=
  .region none (⟨some 56, .mv 0 (.t 14), none⟩ ::
    ⟨some 57, .bin .add (.t 56) (.c (.int .i64 1)), none⟩ ::
    ⟨some 14, .mv 0 (.t 57), none⟩ ::
    [])
def c4_6 : HCode :=
  .seq (.block 1 (.seq (.region none (⟨some 58, .mv 1 (.t 2), none⟩ ::
      ⟨some 59, .mv 0 (.t 14), none⟩ ::
      ⟨some 60, .iaddr 1 (.t 58) (.t 59), none⟩ ::
      ⟨some 61, .load false 1 (.t 60), none⟩ ::
      ⟨some 62, .mv 1 (.t 13), none⟩ ::
      ⟨some 63, .len (.t 62), none⟩ ::
      ⟨some 64, .call 13 [(.t 61), (.t 63)], none⟩ ::
      ⟨some 15, .mv 0 (.t 64), none⟩ ::
      []))
    (c4_4)))
  (c4_5)
def c4_7 : HCode :=
  .seq (.seq (.region none (⟨some 37, .mv 0 (.t 14), none⟩ ::
    ⟨some 38, .mv 1 (.t 2), none⟩ ::
    ⟨some 39, .len (.t 38), none⟩ ::
    ⟨some 40, .bin .lss (.t 37) (.t 39), none⟩ ::
    ⟨some 41, .mv 0 (.t 40), none⟩ ::
    ⟨some 42, .mv 0 (.t 14), some (4, true)⟩ ::
    ⟨some 43, .mv 1 (.t 3), some (4, true)⟩ ::
    ⟨some 44, .len (.t 43), some (4, true)⟩ ::
    ⟨some 45, .bin .lss (.t 42) (.t 44), some (4, true)⟩ ::
    ⟨some 46, .pick (.t 41) (.t 45) (.c (.bool false)), none⟩ ::
    ⟨some 47, .mv 0 (.t 46), none⟩ ::
    ⟨some 48, .mv 0 (.t 14), some (10, true)⟩ ::
    ⟨some 49, .bin .lss (.t 48) (.c (.int .i64 8)), some (10, true)⟩ ::
    ⟨some 50, .pick (.t 47) (.t 49) (.c (.bool false)), none⟩ ::
    ⟨some 51, .mv 0 (.t 50), none⟩ ::
    ⟨some 52, .mv 1 (.t 13), some (14, true)⟩ ::
    ⟨some 53, .len (.t 52), some (14, true)⟩ ::
    ⟨some 54, .bin .gtr (.t 53) (.c (.int .i64 0)), some (14, true)⟩ ::
    ⟨some 55, .pick (.t 51) (.t 54) (.c (.bool false)), none⟩ ::
    []))
  (.cond (.t 55) (.skip) (.exit 0)))
  (c4_6)
def c4_8 : HCode :=
  .seq (.region none (⟨some 10, .mv 0 (.c (.bool false)), none⟩ ::
    []))
  (.ret)
def c4_9 : HCode :=
  .seq (.region none (⟨some 102, .mv 1 (.t 11), none⟩ ::
    ⟨some 103, .mv 1 (.t 12), none⟩ ::
    ⟨some 104, .mv 1 (.t 13), none⟩ ::
    ⟨some 105, .bsl 1 1 [(.c (.int .i64 (-1)))], none⟩ ::
    ⟨some 106, .app true 1 8 (.t 104) (.t 105), none⟩ ::
    ⟨some 107, .call 21 [(.t 102), (.t 103), (.t 106)], none⟩ ::
    ⟨some 108, .un .not (.t 107), none⟩ ::
    ⟨some 109, .mv 0 (.t 108), none⟩ ::
    ⟨some 110, .call 20 [], some (7, true)⟩ ::
    ⟨some 111, .pick (.t 109) (.t 110) (.c (.bool false)), none⟩ ::
    ⟨some 10, .mv 0 (.t 111), none⟩ ::
    []))
  (.ret)
def c4_10 : HCode :=
  .seq (.seq (.region none (⟨some 88, .mv 1 (.t 4), none⟩ ::
    ⟨some 89, .len (.t 88), none⟩ ::
    ⟨some 90, .bin .leq (.t 89) (.c (.int .i64 300)), none⟩ ::
    ⟨some 91, .mv 0 (.t 90), none⟩ ::
    ⟨some 92, .mv 1 (.t 11), some (3, true)⟩ ::
    ⟨some 93, .mv 1 (.t 12), some (3, true)⟩ ::
    ⟨some 94, .mv 1 (.t 4), some (3, true)⟩ ::
    ⟨some 95, .call 21 [(.t 92), (.t 93), (.t 94)], some (3, true)⟩ ::
    ⟨some 96, .mv 1 (.t 11), some (3, true)⟩ ::
    ⟨some 97, .mv 1 (.t 12), some (3, true)⟩ ::
    ⟨some 98, .mv 1 (.t 4), some (3, true)⟩ ::
    ⟨some 99, .call 22 [(.t 96), (.t 97), (.t 98)], some (3, true)⟩ ::
    ⟨some 100, .beq true (.t 95) (.t 99), some (3, true)⟩ ::
    ⟨some 101, .pick (.t 91) (.t 100) (.c (.bool false)), none⟩ ::
    []))
  (.cond (.t 101) (c4_8) (.skip)))
  (c4_9)
def c4_11 : HCode :=
  .seq (.seq (.region none (⟨some 14, .mv 0 (.c (.int .i64 0)), none⟩ ::
    []))
  (.block 0 (.loop (c4_7))))
  (c4_10)
def c4_12 : HCode :=
  .seq (.seq (.region none (⟨some 28, .mv 1 (.t 11), none⟩ ::
    ⟨some 29, .mv 1 (.t 12), none⟩ ::
    ⟨some 30, .mv 1 (.t 13), none⟩ ::
    ⟨some 31, .call 21 [(.t 28), (.t 29), (.t 30)], none⟩ ::
    ⟨some 32, .mv 1 (.t 11), none⟩ ::
    ⟨some 33, .mv 1 (.t 12), none⟩ ::
    ⟨some 34, .mv 1 (.t 13), none⟩ ::
    ⟨some 35, .call 22 [(.t 32), (.t 33), (.t 34)], none⟩ ::
    ⟨some 36, .beq true (.t 31) (.t 35), none⟩ ::
    []))
  (.cond (.t 36) (c4_1) (.skip)))
  (c4_11)
def c4_13 : HCode :=
  .seq (.region none (⟨some 23, .bsl 1 0 [], none⟩ ::
    ⟨some 24, .mv 1 (.t 11), none⟩ ::
    ⟨some 25, .mv 1 (.t 12), none⟩ ::
    ⟨some 26, .call 18 [(.t 24), (.t 25)], none⟩ ::
    ⟨some 27, .app true 1 8 (.t 23) (.t 26), none⟩ ::
    ⟨some 13, .mv 1 (.t 27), none⟩ ::
    []))
  (c4_12)
def c4_14 : HCode :=
  .seq (.region none (⟨some 17, .mv 1 (.t 0), none⟩ ::
    ⟨some 18, .mv 0 (.t 1), none⟩ ::
    ⟨some 19, .call 13 [(.t 18), (.c (.int .i64 40))], none⟩ ::
    ⟨some 20, .call 12 [(.t 17), (.t 19)], none⟩ ::
    ⟨some 16, .mv 0 (.t 20), none⟩ ::
    ⟨some 21, .ext (.t 16) 0, none⟩ ::
    ⟨some 22, .ext (.t 16) 1, none⟩ ::
    ⟨some 11, .mv 1 (.t 21), none⟩ ::
    ⟨some 12, .mv 1 (.t 22), none⟩ ::
    []))
  (c4_13)
def c4 : HCode :=
  .seq (.region none (⟨some 10, .mv 0 (.c (.bool false)), none⟩ ::
    []))
  (c4_14)
theorem fc4 : funCode Try.prog 4 = some (c4, [10], 112) := by kernel_rfl

end Go.Proofs.Ytjlidhijnohkbaa
