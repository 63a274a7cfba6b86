/-
  OWN WORK, written by my own program. The law's function in the value language, checked against the translation.
-/
import Derived.Test.YtkhbiknjkffpjaaHl4
import Derived.Test.YtkhbiknjkffpjaaProg
namespace Go.Proofs.Ytkhbiknjkffpjaa
open Go.HL
set_option maxRecDepth 100000
set_option linter.unusedVariables false
def c5_1 : HCode :=
  .region none (⟨some 27, .mv 1 (.t 1), none⟩ ::
    ⟨some 28, .slc 1 (.t 27) none (some (.c (.int .i64 9))), none⟩ ::
    ⟨some 1, .mv 1 (.t 28), none⟩ ::
    [])
def c5_2 : HCode :=
  .seq (.region none (⟨some 8, .mv 0 (.c (.bool false)), none⟩ ::
    []))
  (.ret)
def c5_3 : HCode :=
  .seq (.region none (⟨some 41, .mv 0 (.t 12), none⟩ ::
    ⟨some 42, .bin .neq (.t 41) (.c (.int .i64 1)), none⟩ ::
    ⟨some 43, .mv 0 (.t 42), none⟩ ::
    ⟨some 44, .mv 0 (.t 10), some (2, false)⟩ ::
    ⟨some 45, .bin .neq (.t 44) (.c (.int .i64 0)), some (2, false)⟩ ::
    ⟨some 46, .pick (.t 43) (.c (.bool true)) (.t 45), none⟩ ::
    ⟨some 47, .mv 0 (.t 46), none⟩ ::
    ⟨some 48, .mv 1 (.t 9), some (6, false)⟩ ::
    ⟨some 49, .len (.t 48), some (6, false)⟩ ::
    ⟨some 50, .mv 1 (.t 11), some (6, false)⟩ ::
    ⟨some 51, .len (.t 50), some (6, false)⟩ ::
    ⟨some 52, .bin .add (.t 49) (.t 51), some (6, false)⟩ ::
    ⟨some 53, .bin .neq (.t 52) (.c (.int .i64 0)), some (6, false)⟩ ::
    ⟨some 54, .pick (.t 47) (.c (.bool true)) (.t 53), none⟩ ::
    []))
  (.cond (.t 54) (c5_2) (.skip))
def c5_4 : HCode :=
  .seq (.region none (⟨some 34, .mv 1 (.t 0), none⟩ ::
    ⟨some 35, .mv 1 (.t 1), none⟩ ::
    ⟨some 36, .call 25 [(.t 34), (.t 35)], none⟩ ::
    ⟨some 33, .mv 0 (.t 36), none⟩ ::
    ⟨some 37, .ext (.t 33) 0, none⟩ ::
    ⟨some 38, .ext (.t 33) 1, none⟩ ::
    ⟨some 39, .ext (.t 33) 2, none⟩ ::
    ⟨some 40, .ext (.t 33) 3, none⟩ ::
    ⟨some 9, .mv 1 (.t 37), none⟩ ::
    ⟨some 10, .mv 0 (.t 38), none⟩ ::
    ⟨some 11, .mv 1 (.t 39), none⟩ ::
    ⟨some 12, .mv 0 (.t 40), none⟩ ::
    []))
  (c5_3)
def c5_5 : HCode :=
  .seq (.region none (⟨some 85, .mv 0 (.t 19), none⟩ ::
    ⟨some 86, .bin .eql (.t 85) (.c (.int .i64 0)), none⟩ ::
    ⟨some 87, .mv 0 (.t 86), none⟩ ::
    ⟨some 88, .mv 1 (.t 16), some (2, true)⟩ ::
    ⟨some 89, .mv 1 (.t 20), some (2, true)⟩ ::
    ⟨some 90, .call 17 [(.t 88), (.t 89)], some (2, true)⟩ ::
    ⟨some 91, .pick (.t 87) (.t 90) (.c (.bool false)), none⟩ ::
    ⟨some 92, .mv 0 (.t 91), none⟩ ::
    ⟨some 93, .mv 0 (.t 17), some (7, true)⟩ ::
    ⟨some 94, .mv 0 (.t 21), some (7, true)⟩ ::
    ⟨some 95, .bin .eql (.t 93) (.t 94), some (7, true)⟩ ::
    ⟨some 96, .pick (.t 92) (.t 95) (.c (.bool false)), none⟩ ::
    ⟨some 97, .mv 0 (.t 96), none⟩ ::
    ⟨some 98, .mv 0 (.t 23), some (12, true)⟩ ::
    ⟨some 99, .bin .eql (.t 98) (.c (.int .i64 0)), some (12, true)⟩ ::
    ⟨some 100, .pick (.t 97) (.t 99) (.c (.bool false)), none⟩ ::
    ⟨some 101, .mv 0 (.t 100), none⟩ ::
    ⟨some 102, .mv 0 (.t 22), some (16, true)⟩ ::
    ⟨some 103, .mv 0 (.t 17), some (16, true)⟩ ::
    ⟨some 104, .bin .eql (.t 102) (.t 103), some (16, true)⟩ ::
    ⟨some 105, .pick (.t 101) (.t 104) (.c (.bool false)), none⟩ ::
    ⟨some 106, .mv 0 (.t 105), none⟩ ::
    ⟨some 107, .call 21 [], some (21, true)⟩ ::
    ⟨some 108, .pick (.t 106) (.t 107) (.c (.bool false)), none⟩ ::
    ⟨some 8, .mv 0 (.t 108), none⟩ ::
    []))
  (.ret)
def c5_6 : HCode :=
  .seq (.region none (⟨some 79, .mv 1 (.t 15), none⟩ ::
    ⟨some 80, .mv 1 (.t 13), none⟩ ::
    ⟨some 81, .mv 1 (.t 18), none⟩ ::
    ⟨some 82, .call 27 [(.t 79), (.t 80), (.t 81)], none⟩ ::
    ⟨some 78, .mv 0 (.t 82), none⟩ ::
    ⟨some 83, .ext (.t 78) 0, none⟩ ::
    ⟨some 84, .ext (.t 78) 1, none⟩ ::
    ⟨some 22, .mv 0 (.t 83), none⟩ ::
    ⟨some 23, .mv 0 (.t 84), none⟩ ::
    []))
  (c5_5)
def c5_7 : HCode :=
  .seq (.region none (⟨some 73, .mv 1 (.t 15), none⟩ ::
    ⟨some 74, .mv 1 (.t 13), none⟩ ::
    ⟨some 75, .call 26 [(.t 73), (.t 74)], none⟩ ::
    ⟨some 72, .mv 0 (.t 75), none⟩ ::
    ⟨some 76, .ext (.t 72) 0, none⟩ ::
    ⟨some 77, .ext (.t 72) 1, none⟩ ::
    ⟨some 20, .mv 1 (.t 76), none⟩ ::
    ⟨some 21, .mv 0 (.t 77), none⟩ ::
    []))
  (c5_6)
def c5_8 : HCode :=
  .seq (.region none (⟨some 65, .mv 1 (.t 15), none⟩ ::
    ⟨some 66, .mv 1 (.t 13), none⟩ ::
    ⟨some 67, .call 25 [(.t 65), (.t 66)], none⟩ ::
    ⟨some 64, .mv 0 (.t 67), none⟩ ::
    ⟨some 68, .ext (.t 64) 0, none⟩ ::
    ⟨some 69, .ext (.t 64) 1, none⟩ ::
    ⟨some 70, .ext (.t 64) 2, none⟩ ::
    ⟨some 71, .ext (.t 64) 3, none⟩ ::
    ⟨some 16, .mv 1 (.t 68), none⟩ ::
    ⟨some 17, .mv 0 (.t 69), none⟩ ::
    ⟨some 18, .mv 1 (.t 70), none⟩ ::
    ⟨some 19, .mv 0 (.t 71), none⟩ ::
    []))
  (c5_7)
def c5_9 : HCode :=
  .seq (.region none (⟨some 60, .mv 1 (.t 3), none⟩ ::
    ⟨some 61, .mv 1 (.t 13), none⟩ ::
    ⟨some 62, .len (.t 61), none⟩ ::
    ⟨some 63, .call 20 [(.t 60), (.t 62)], none⟩ ::
    ⟨some 15, .mv 1 (.t 63), none⟩ ::
    []))
  (c5_8)
def c5_10 : HCode :=
  .seq (.region none (⟨some 56, .mv 1 (.t 2), none⟩ ::
    ⟨some 57, .call 11 [(.t 56)], none⟩ ::
    ⟨some 55, .mv 0 (.t 57), none⟩ ::
    ⟨some 58, .ext (.t 55) 0, none⟩ ::
    ⟨some 59, .ext (.t 55) 1, none⟩ ::
    ⟨some 13, .mv 1 (.t 58), none⟩ ::
    ⟨some 14, .mv 1 (.t 59), none⟩ ::
    []))
  (c5_9)
def c5_11 : HCode :=
  .seq (.seq (.region none (⟨some 29, .mv 1 (.t 0), none⟩ ::
    ⟨some 30, .mv 1 (.t 1), none⟩ ::
    ⟨some 31, .call 14 [(.t 29), (.t 30)], none⟩ ::
    ⟨some 32, .un .not (.t 31), none⟩ ::
    []))
  (.cond (.t 32) (c5_4) (.skip)))
  (c5_10)
def c5_12 : HCode :=
  .seq (.seq (.region none (⟨some 24, .mv 1 (.t 1), none⟩ ::
    ⟨some 25, .len (.t 24), none⟩ ::
    ⟨some 26, .bin .gtr (.t 25) (.c (.int .i64 9)), none⟩ ::
    []))
  (.cond (.t 26) (c5_1) (.skip)))
  (c5_11)
def c5 : HCode :=
  .seq (.region none (⟨some 8, .mv 0 (.c (.bool false)), none⟩ ::
    []))
  (c5_12)
theorem fc5 : funCode Try.prog 5 = some (c5, [8], 109) := by kernel_rfl

end Go.Proofs.Ytkhbiknjkffpjaa
