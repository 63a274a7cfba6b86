/-
  OWN WORK, written by my own program. The law's function in the value language, checked against the translation.
-/
import Derived.Test.YtkhbiknjkffpjaaHl4
import Derived.Test.YtkhbiknjkffpjaaProg
namespace Go.Proofs.Ytkhbiknjkffpjaa
open Go.HL
set_option maxRecDepth 100000
set_option linter.unusedVariables false
def c4_1 : HCode :=
  .region none (⟨some 23, .mv 1 (.t 1), none⟩ ::
    ⟨some 24, .slc 1 (.t 23) none (some (.c (.int .i64 30))), none⟩ ::
    ⟨some 1, .mv 1 (.t 24), none⟩ ::
    [])
def c4_2 : HCode :=
  .seq (.region none (⟨some 58, .mv 0 (.t 9), none⟩ ::
    ⟨some 59, .mv 0 (.t 11), none⟩ ::
    ⟨some 60, .bin .eql (.t 58) (.t 59), none⟩ ::
    ⟨some 61, .mv 0 (.t 60), none⟩ ::
    ⟨some 62, .mv 3 (.t 10), some (3, true)⟩ ::
    ⟨some 63, .mv 3 (.t 12), some (3, true)⟩ ::
    ⟨some 64, .call 24 [(.t 62), (.t 63)], some (3, true)⟩ ::
    ⟨some 65, .pick (.t 61) (.t 64) (.c (.bool false)), none⟩ ::
    ⟨some 66, .mv 0 (.t 65), none⟩ ::
    ⟨some 67, .mv 0 (.t 16), some (8, true)⟩ ::
    ⟨some 68, .mv 0 (.t 18), some (8, true)⟩ ::
    ⟨some 69, .bin .eql (.t 67) (.t 68), some (8, true)⟩ ::
    ⟨some 70, .pick (.t 66) (.t 69) (.c (.bool false)), none⟩ ::
    ⟨some 71, .mv 0 (.t 70), none⟩ ::
    ⟨some 72, .mv 0 (.t 16), some (13, true)⟩ ::
    ⟨some 73, .mv 1 (.t 13), some (13, true)⟩ ::
    ⟨some 74, .len (.t 73), some (13, true)⟩ ::
    ⟨some 75, .bin .add (.t 74) (.c (.int .i64 2)), some (13, true)⟩ ::
    ⟨some 76, .bin .eql (.t 72) (.t 75), some (13, true)⟩ ::
    ⟨some 77, .pick (.t 71) (.t 76) (.c (.bool false)), none⟩ ::
    ⟨some 78, .mv 0 (.t 77), none⟩ ::
    ⟨some 79, .mv 3 (.t 17), some (20, true)⟩ ::
    ⟨some 80, .mv 3 (.t 19), some (20, true)⟩ ::
    ⟨some 81, .call 24 [(.t 79), (.t 80)], some (20, true)⟩ ::
    ⟨some 82, .pick (.t 78) (.t 81) (.c (.bool false)), none⟩ ::
    ⟨some 83, .mv 0 (.t 82), none⟩ ::
    ⟨some 84, .call 21 [], some (25, true)⟩ ::
    ⟨some 85, .pick (.t 83) (.t 84) (.c (.bool false)), none⟩ ::
    ⟨some 8, .mv 0 (.t 85), none⟩ ::
    []))
  (.ret)
def c4_3 : HCode :=
  .seq (.region none (⟨some 53, .mv 1 (.t 15), none⟩ ::
    ⟨some 54, .mv 1 (.t 13), none⟩ ::
    ⟨some 55, .call 23 [(.t 53), (.t 54)], none⟩ ::
    ⟨some 52, .mv 0 (.t 55), none⟩ ::
    ⟨some 56, .ext (.t 52) 0, none⟩ ::
    ⟨some 57, .ext (.t 52) 1, none⟩ ::
    ⟨some 18, .mv 0 (.t 56), none⟩ ::
    ⟨some 19, .mv 3 (.t 57), none⟩ ::
    []))
  (c4_2)
def c4_4 : HCode :=
  .seq (.region none (⟨some 47, .mv 1 (.t 15), none⟩ ::
    ⟨some 48, .mv 1 (.t 13), none⟩ ::
    ⟨some 49, .call 22 [(.t 47), (.t 48)], none⟩ ::
    ⟨some 46, .mv 0 (.t 49), none⟩ ::
    ⟨some 50, .ext (.t 46) 0, none⟩ ::
    ⟨some 51, .ext (.t 46) 1, none⟩ ::
    ⟨some 16, .mv 0 (.t 50), none⟩ ::
    ⟨some 17, .mv 3 (.t 51), none⟩ ::
    []))
  (c4_3)
def c4_5 : HCode :=
  .seq (.region none (⟨some 42, .mv 1 (.t 3), none⟩ ::
    ⟨some 43, .mv 1 (.t 13), none⟩ ::
    ⟨some 44, .len (.t 43), none⟩ ::
    ⟨some 45, .call 20 [(.t 42), (.t 44)], none⟩ ::
    ⟨some 15, .mv 1 (.t 45), none⟩ ::
    []))
  (c4_4)
def c4_6 : HCode :=
  .seq (.region none (⟨some 38, .mv 1 (.t 2), none⟩ ::
    ⟨some 39, .call 11 [(.t 38)], none⟩ ::
    ⟨some 37, .mv 0 (.t 39), none⟩ ::
    ⟨some 40, .ext (.t 37) 0, none⟩ ::
    ⟨some 41, .ext (.t 37) 1, none⟩ ::
    ⟨some 13, .mv 1 (.t 40), none⟩ ::
    ⟨some 14, .mv 1 (.t 41), none⟩ ::
    []))
  (c4_5)
def c4_7 : HCode :=
  .seq (.region none (⟨some 32, .mv 1 (.t 0), none⟩ ::
    ⟨some 33, .mv 1 (.t 1), none⟩ ::
    ⟨some 34, .call 23 [(.t 32), (.t 33)], none⟩ ::
    ⟨some 31, .mv 0 (.t 34), none⟩ ::
    ⟨some 35, .ext (.t 31) 0, none⟩ ::
    ⟨some 36, .ext (.t 31) 1, none⟩ ::
    ⟨some 11, .mv 0 (.t 35), none⟩ ::
    ⟨some 12, .mv 3 (.t 36), none⟩ ::
    []))
  (c4_6)
def c4_8 : HCode :=
  .seq (.region none (⟨some 26, .mv 1 (.t 0), none⟩ ::
    ⟨some 27, .mv 1 (.t 1), none⟩ ::
    ⟨some 28, .call 22 [(.t 26), (.t 27)], none⟩ ::
    ⟨some 25, .mv 0 (.t 28), none⟩ ::
    ⟨some 29, .ext (.t 25) 0, none⟩ ::
    ⟨some 30, .ext (.t 25) 1, none⟩ ::
    ⟨some 9, .mv 0 (.t 29), none⟩ ::
    ⟨some 10, .mv 3 (.t 30), none⟩ ::
    []))
  (c4_7)
def c4_9 : HCode :=
  .seq (.seq (.region none (⟨some 20, .mv 1 (.t 1), none⟩ ::
    ⟨some 21, .len (.t 20), none⟩ ::
    ⟨some 22, .bin .gtr (.t 21) (.c (.int .i64 30)), none⟩ ::
    []))
  (.cond (.t 22) (c4_1) (.skip)))
  (c4_8)
def c4 : HCode :=
  .seq (.region none (⟨some 8, .mv 0 (.c (.bool false)), none⟩ ::
    []))
  (c4_9)
theorem fc4 : funCode Try.prog 4 = some (c4, [8], 86) := by kernel_rfl

end Go.Proofs.Ytkhbiknjkffpjaa
