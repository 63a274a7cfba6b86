/-
  OWN WORK, written by my own program. The law's function in the value language, checked against the translation.
-/
import Derived.Test.YtkhbiknjkffpjaaHl4
import Derived.Test.YtkhbiknjkffpjaaProg
namespace Go.Proofs.Ytkhbiknjkffpjaa
open Go.HL
set_option maxRecDepth 100000
set_option linter.unusedVariables false
def c3_1 : HCode :=
  .region none (⟨some 17, .mv 1 (.t 1), none⟩ ::
    ⟨some 18, .slc 1 (.t 17) none (some (.c (.int .i64 30))), none⟩ ::
    ⟨some 1, .mv 1 (.t 18), none⟩ ::
    [])
def c3_2 : HCode :=
  .seq (.region none (⟨some 28, .mv 1 (.t 0), none⟩ ::
    ⟨some 29, .mv 1 (.t 1), none⟩ ::
    ⟨some 30, .call 13 [(.t 28), (.t 29)], none⟩ ::
    ⟨some 31, .mv 1 (.t 0), none⟩ ::
    ⟨some 32, .mv 1 (.t 1), none⟩ ::
    ⟨some 33, .call 14 [(.t 31), (.t 32)], none⟩ ::
    ⟨some 34, .beq false (.t 30) (.t 33), none⟩ ::
    ⟨some 35, .mv 0 (.t 34), none⟩ ::
    ⟨some 36, .mv 1 (.t 1), some (7, true)⟩ ::
    ⟨some 37, .mv 1 (.t 2), some (7, true)⟩ ::
    ⟨some 38, .call 15 [(.t 36), (.t 37)], some (7, true)⟩ ::
    ⟨some 39, .mv 1 (.t 1), some (7, true)⟩ ::
    ⟨some 40, .mv 1 (.t 2), some (7, true)⟩ ::
    ⟨some 41, .call 16 [(.t 39), (.t 40)], some (7, true)⟩ ::
    ⟨some 42, .beq false (.t 38) (.t 41), some (7, true)⟩ ::
    ⟨some 43, .pick (.t 35) (.t 42) (.c (.bool false)), none⟩ ::
    ⟨some 44, .mv 0 (.t 43), none⟩ ::
    ⟨some 45, .mv 1 (.t 1), some (16, true)⟩ ::
    ⟨some 46, .mv 1 (.t 2), some (16, true)⟩ ::
    ⟨some 47, .call 18 [(.t 45), (.t 46)], some (16, true)⟩ ::
    ⟨some 48, .mv 1 (.t 1), some (16, true)⟩ ::
    ⟨some 49, .mv 1 (.t 2), some (16, true)⟩ ::
    ⟨some 50, .call 19 [(.t 48), (.t 49)], some (16, true)⟩ ::
    ⟨some 51, .call 17 [(.t 47), (.t 50)], some (16, true)⟩ ::
    ⟨some 52, .pick (.t 44) (.t 51) (.c (.bool false)), none⟩ ::
    ⟨some 53, .mv 0 (.t 52), none⟩ ::
    ⟨some 54, .mv 1 (.t 11), some (25, true)⟩ ::
    ⟨some 55, .mv 1 (.t 13), some (25, true)⟩ ::
    ⟨some 56, .call 15 [(.t 54), (.t 55)], some (25, true)⟩ ::
    ⟨some 57, .mv 1 (.t 11), some (25, true)⟩ ::
    ⟨some 58, .mv 1 (.t 13), some (25, true)⟩ ::
    ⟨some 59, .call 16 [(.t 57), (.t 58)], some (25, true)⟩ ::
    ⟨some 60, .beq false (.t 56) (.t 59), some (25, true)⟩ ::
    ⟨some 61, .pick (.t 53) (.t 60) (.c (.bool false)), none⟩ ::
    ⟨some 62, .mv 0 (.t 61), none⟩ ::
    ⟨some 63, .mv 1 (.t 11), some (34, true)⟩ ::
    ⟨some 64, .mv 1 (.t 13), some (34, true)⟩ ::
    ⟨some 65, .call 18 [(.t 63), (.t 64)], some (34, true)⟩ ::
    ⟨some 66, .mv 1 (.t 11), some (34, true)⟩ ::
    ⟨some 67, .mv 1 (.t 13), some (34, true)⟩ ::
    ⟨some 68, .call 19 [(.t 66), (.t 67)], some (34, true)⟩ ::
    ⟨some 69, .call 17 [(.t 65), (.t 68)], some (34, true)⟩ ::
    ⟨some 70, .pick (.t 62) (.t 69) (.c (.bool false)), none⟩ ::
    ⟨some 71, .mv 0 (.t 70), none⟩ ::
    ⟨some 72, .mv 1 (.t 3), some (43, true)⟩ ::
    ⟨some 73, .mv 1 (.t 11), some (43, true)⟩ ::
    ⟨some 74, .len (.t 73), some (43, true)⟩ ::
    ⟨some 75, .call 20 [(.t 72), (.t 74)], some (43, true)⟩ ::
    ⟨some 76, .mv 1 (.t 11), some (43, true)⟩ ::
    ⟨some 77, .call 13 [(.t 75), (.t 76)], some (43, true)⟩ ::
    ⟨some 78, .pick (.t 71) (.t 77) (.c (.bool false)), none⟩ ::
    ⟨some 79, .mv 0 (.t 78), none⟩ ::
    ⟨some 80, .call 21 [], some (51, true)⟩ ::
    ⟨some 81, .pick (.t 79) (.t 80) (.c (.bool false)), none⟩ ::
    ⟨some 10, .mv 0 (.t 81), none⟩ ::
    []))
  (.ret)
def c3_3 : HCode :=
  .seq (.region none (⟨some 24, .mv 1 (.t 11), none⟩ ::
    ⟨some 25, .len (.t 24), none⟩ ::
    ⟨some 26, .mv 0 (.t 4), none⟩ ::
    ⟨some 27, .call 12 [(.t 25), (.t 26)], none⟩ ::
    ⟨some 13, .mv 1 (.t 27), none⟩ ::
    []))
  (c3_2)
def c3_4 : HCode :=
  .seq (.region none (⟨some 20, .mv 1 (.t 3), none⟩ ::
    ⟨some 21, .call 11 [(.t 20)], none⟩ ::
    ⟨some 19, .mv 0 (.t 21), none⟩ ::
    ⟨some 22, .ext (.t 19) 0, none⟩ ::
    ⟨some 23, .ext (.t 19) 1, none⟩ ::
    ⟨some 11, .mv 1 (.t 22), none⟩ ::
    ⟨some 12, .mv 1 (.t 23), none⟩ ::
    []))
  (c3_3)
def c3_5 : HCode :=
  .seq (.seq (.region none (⟨some 14, .mv 1 (.t 1), none⟩ ::
    ⟨some 15, .len (.t 14), none⟩ ::
    ⟨some 16, .bin .gtr (.t 15) (.c (.int .i64 30)), none⟩ ::
    []))
  (.cond (.t 16) (c3_1) (.skip)))
  (c3_4)
def c3 : HCode :=
  .seq (.region none (⟨some 10, .mv 0 (.c (.bool false)), none⟩ ::
    []))
  (c3_5)
theorem fc3 : funCode Try.prog 3 = some (c3, [10], 82) := by kernel_rfl

end Go.Proofs.Ytkhbiknjkffpjaa
