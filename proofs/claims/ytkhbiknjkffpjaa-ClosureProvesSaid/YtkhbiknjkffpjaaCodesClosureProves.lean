/-
  OWN WORK, written by my own program. The law's function in the value language, checked against the translation.
-/
import Derived.Test.YtkhbiknjkffpjaaHl4
import Derived.Test.YtkhbiknjkffpjaaProg
namespace Go.Proofs.Ytkhbiknjkffpjaa
open Go.HL
set_option maxRecDepth 100000
set_option linter.unusedVariables false
def c7_1 : HCode :=
  .seq (.region none (⟨some 8, .mv 0 (.c (.bool false)), none⟩ ::
    []))
  (.ret)
def c7_2 : HCode :=
  .seq (.region none (⟨some 8, .mv 0 (.c (.bool false)), none⟩ ::
    []))
  (.ret)
def c7_3 : HCode :=
  .region none (⟨some 102, .mv 0 (.t 20), none⟩ ::
    ⟨some 103, .bin .add (.t 102) (.c (.int .i64 1)), none⟩ ::
    ⟨some 20, .mv 0 (.t 103), none⟩ ::
    [])
def c7_4 : HCode :=
  .seq (.block 1 (.region none (⟨some 104, .mv 1 (.t 19), none⟩ ::
      ⟨some 105, .bsl 1 1 [(.c (.int .i64 0))], none⟩ ::
      ⟨some 106, .app true 1 8 (.t 104) (.t 105), none⟩ ::
      ⟨some 19, .mv 1 (.t 106), none⟩ ::
      [])))
  (c7_3)
def c7_5 : HCode :=
  .seq (.seq (.region none (⟨some 98, .mv 0 (.t 20), none⟩ ::
    ⟨some 99, .mv 1 (.t 14), none⟩ ::
    ⟨some 100, .len (.t 99), none⟩ ::
    ⟨some 101, .bin .lss (.t 98) (.t 100), none⟩ ::
    []))
  (.cond (.t 101) (.skip) (.exit 0)))
  (c7_4)
def c7_6 : HCode :=
  .seq (.region none (⟨some 114, .mv 0 (.t 22), none⟩ ::
    ⟨some 115, .bin .eql (.t 114) (.c (.int .i64 0)), none⟩ ::
    ⟨some 116, .mv 0 (.t 115), none⟩ ::
    ⟨some 117, .mv 0 (.t 13), some (2, true)⟩ ::
    ⟨some 118, .mv 0 (.t 21), some (2, true)⟩ ::
    ⟨some 119, .bin .leq (.t 117) (.t 118), some (2, true)⟩ ::
    ⟨some 120, .pick (.t 116) (.t 119) (.c (.bool false)), none⟩ ::
    ⟨some 121, .mv 0 (.t 120), none⟩ ::
    ⟨some 122, .mv 0 (.t 13), some (7, true)⟩ ::
    ⟨some 123, .bin .geq (.t 122) (.c (.int .i64 0)), some (7, true)⟩ ::
    ⟨some 124, .pick (.t 121) (.t 123) (.c (.bool false)), none⟩ ::
    ⟨some 125, .mv 0 (.t 124), none⟩ ::
    ⟨some 126, .call 21 [], some (11, true)⟩ ::
    ⟨some 127, .pick (.t 125) (.t 126) (.c (.bool false)), none⟩ ::
    ⟨some 8, .mv 0 (.t 127), none⟩ ::
    []))
  (.ret)
def c7_7 : HCode :=
  .seq (.region none (⟨some 108, .mv 1 (.t 11), none⟩ ::
    ⟨some 109, .mv 1 (.t 9), none⟩ ::
    ⟨some 110, .mv 1 (.t 19), none⟩ ::
    ⟨some 111, .call 28 [(.t 108), (.t 109), (.t 110)], none⟩ ::
    ⟨some 107, .mv 0 (.t 111), none⟩ ::
    ⟨some 112, .ext (.t 107) 0, none⟩ ::
    ⟨some 113, .ext (.t 107) 1, none⟩ ::
    ⟨some 21, .mv 0 (.t 112), none⟩ ::
    ⟨some 22, .mv 0 (.t 113), none⟩ ::
    []))
  (c7_6)
def c7_8 : HCode :=
  .seq (.seq (.region none (⟨some 20, .mv 0 (.c (.int .i64 0)), none⟩ ::
    []))
  (.block 0 (.loop (c7_5))))
  (c7_7)
def c7_9 : HCode :=
  .seq (.region none (⟨some 19, .mv 1 (.c (.nils)), none⟩ ::
    []))
  (c7_8)
def c7_10 : HCode :=
  .seq (.seq (.region none (⟨some 86, .mv 1 (.t 18), none⟩ ::
    ⟨some 87, .len (.t 86), none⟩ ::
    ⟨some 88, .mv 1 (.t 9), none⟩ ::
    ⟨some 89, .len (.t 88), none⟩ ::
    ⟨some 90, .bin .neq (.t 87) (.t 89), none⟩ ::
    ⟨some 91, .mv 0 (.t 90), none⟩ ::
    ⟨some 92, .mv 1 (.t 11), some (5, false)⟩ ::
    ⟨some 93, .mv 1 (.t 18), some (5, false)⟩ ::
    ⟨some 94, .call 32 [(.t 92), (.t 93)], some (5, false)⟩ ::
    ⟨some 95, .mv 0 (.t 13), some (5, false)⟩ ::
    ⟨some 96, .bin .gtr (.t 94) (.t 95), some (5, false)⟩ ::
    ⟨some 97, .pick (.t 91) (.c (.bool true)) (.t 96), none⟩ ::
    []))
  (.cond (.t 97) (c7_2) (.skip)))
  (c7_9)
def c7_11 : HCode :=
  .seq (.region none (⟨some 80, .mv 1 (.t 9), none⟩ ::
    ⟨some 81, .mv 1 (.t 9), none⟩ ::
    ⟨some 82, .len (.t 81), none⟩ ::
    ⟨some 83, .mv 0 (.t 3), none⟩ ::
    ⟨some 84, .call 12 [(.t 82), (.t 83)], none⟩ ::
    ⟨some 85, .call 18 [(.t 80), (.t 84)], none⟩ ::
    ⟨some 18, .mv 1 (.t 85), none⟩ ::
    []))
  (c7_10)
def c7_12 : HCode :=
  .seq (.seq (.region none (⟨some 49, .mv 0 (.t 15), none⟩ ::
    ⟨some 50, .bin .neq (.t 49) (.c (.int .i64 0)), none⟩ ::
    ⟨some 51, .mv 0 (.t 50), none⟩ ::
    ⟨some 52, .mv 0 (.t 17), some (2, false)⟩ ::
    ⟨some 53, .bin .neq (.t 52) (.c (.int .i64 0)), some (2, false)⟩ ::
    ⟨some 54, .pick (.t 51) (.c (.bool true)) (.t 53), none⟩ ::
    ⟨some 55, .mv 0 (.t 54), none⟩ ::
    ⟨some 56, .mv 1 (.t 12), some (6, false)⟩ ::
    ⟨some 57, .len (.t 56), some (6, false)⟩ ::
    ⟨some 58, .mv 1 (.t 9), some (6, false)⟩ ::
    ⟨some 59, .len (.t 58), some (6, false)⟩ ::
    ⟨some 60, .bin .neq (.t 57) (.t 59), some (6, false)⟩ ::
    ⟨some 61, .pick (.t 55) (.c (.bool true)) (.t 60), none⟩ ::
    ⟨some 62, .mv 0 (.t 61), none⟩ ::
    ⟨some 63, .mv 1 (.t 9), some (13, false)⟩ ::
    ⟨some 64, .mv 1 (.t 12), some (13, false)⟩ ::
    ⟨some 65, .call 15 [(.t 63), (.t 64)], some (13, false)⟩ ::
    ⟨some 66, .un .not (.t 65), some (13, false)⟩ ::
    ⟨some 67, .pick (.t 62) (.c (.bool true)) (.t 66), none⟩ ::
    ⟨some 68, .mv 0 (.t 67), none⟩ ::
    ⟨some 69, .mv 1 (.t 11), some (19, false)⟩ ::
    ⟨some 70, .mv 1 (.t 12), some (19, false)⟩ ::
    ⟨some 71, .call 32 [(.t 69), (.t 70)], some (19, false)⟩ ::
    ⟨some 72, .mv 0 (.t 13), some (19, false)⟩ ::
    ⟨some 73, .bin .neq (.t 71) (.t 72), some (19, false)⟩ ::
    ⟨some 74, .pick (.t 68) (.c (.bool true)) (.t 73), none⟩ ::
    ⟨some 75, .mv 0 (.t 74), none⟩ ::
    ⟨some 76, .mv 0 (.t 16), some (26, false)⟩ ::
    ⟨some 77, .mv 0 (.t 13), some (26, false)⟩ ::
    ⟨some 78, .bin .neq (.t 76) (.t 77), some (26, false)⟩ ::
    ⟨some 79, .pick (.t 75) (.c (.bool true)) (.t 78), none⟩ ::
    []))
  (.cond (.t 79) (c7_1) (.skip)))
  (c7_11)
def c7_13 : HCode :=
  .seq (.region none (⟨some 43, .mv 1 (.t 11), none⟩ ::
    ⟨some 44, .mv 1 (.t 9), none⟩ ::
    ⟨some 45, .mv 1 (.t 14), none⟩ ::
    ⟨some 46, .call 28 [(.t 43), (.t 44), (.t 45)], none⟩ ::
    ⟨some 42, .mv 0 (.t 46), none⟩ ::
    ⟨some 47, .ext (.t 42) 0, none⟩ ::
    ⟨some 48, .ext (.t 42) 1, none⟩ ::
    ⟨some 16, .mv 0 (.t 47), none⟩ ::
    ⟨some 17, .mv 0 (.t 48), none⟩ ::
    []))
  (c7_12)
def c7_14 : HCode :=
  .seq (.region none (⟨some 35, .mv 1 (.t 11), none⟩ ::
    ⟨some 36, .mv 1 (.t 9), none⟩ ::
    ⟨some 37, .call 25 [(.t 35), (.t 36)], none⟩ ::
    ⟨some 34, .mv 0 (.t 37), none⟩ ::
    ⟨some 38, .ext (.t 34) 0, none⟩ ::
    ⟨some 39, .ext (.t 34) 1, none⟩ ::
    ⟨some 40, .ext (.t 34) 2, none⟩ ::
    ⟨some 41, .ext (.t 34) 3, none⟩ ::
    ⟨some 12, .mv 1 (.t 38), none⟩ ::
    ⟨some 13, .mv 0 (.t 39), none⟩ ::
    ⟨some 14, .mv 1 (.t 40), none⟩ ::
    ⟨some 15, .mv 0 (.t 41), none⟩ ::
    []))
  (c7_13)
def c7_15 : HCode :=
  .seq (.region none (⟨some 30, .mv 1 (.t 1), none⟩ ::
    ⟨some 31, .mv 1 (.t 9), none⟩ ::
    ⟨some 32, .len (.t 31), none⟩ ::
    ⟨some 33, .call 20 [(.t 30), (.t 32)], none⟩ ::
    ⟨some 11, .mv 1 (.t 33), none⟩ ::
    []))
  (c7_14)
def c7_16 : HCode :=
  .seq (.region none (⟨some 24, .mv 1 (.t 0), none⟩ ::
    ⟨some 25, .mv 0 (.t 2), none⟩ ::
    ⟨some 26, .call 30 [(.t 25), (.c (.int .i64 31))], none⟩ ::
    ⟨some 27, .call 31 [(.t 24), (.t 26)], none⟩ ::
    ⟨some 23, .mv 0 (.t 27), none⟩ ::
    ⟨some 28, .ext (.t 23) 0, none⟩ ::
    ⟨some 29, .ext (.t 23) 1, none⟩ ::
    ⟨some 9, .mv 1 (.t 28), none⟩ ::
    ⟨some 10, .mv 1 (.t 29), none⟩ ::
    []))
  (c7_15)
def c7 : HCode :=
  .seq (.region none (⟨some 8, .mv 0 (.c (.bool false)), none⟩ ::
    []))
  (c7_16)
theorem fc7 : funCode Try.prog 7 = some (c7, [8], 128) := by kernel_rfl

end Go.Proofs.Ytkhbiknjkffpjaa
