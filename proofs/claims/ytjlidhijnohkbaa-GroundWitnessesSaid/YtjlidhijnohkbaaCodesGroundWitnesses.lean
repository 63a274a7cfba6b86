/-
  OWN WORK, written by my own program. The law's function in the value language, checked against the translation.
-/
import Derived.Test.YtjlidhijnohkbaaHl4
import Derived.Test.YtjlidhijnohkbaaProg
namespace Go.Proofs.Ytjlidhijnohkbaa
open Go.HL
set_option maxRecDepth 100000
set_option linter.unusedVariables false
def c6_1 : HCode :=
  .seq (.region none (⟨some 4, .mv 0 (.c (.bool false)), none⟩ ::
    []))
  (.ret)
def c6_2 : HCode :=
  .region none (⟨some 17, .mv 0 (.t 7), none⟩ ::
    ⟨some 18, .bin .add (.t 17) (.c (.int .i64 1)), none⟩ ::
    ⟨some 7, .mv 0 (.t 18), none⟩ ::
    [])
def c6_3 : HCode :=
  .seq (.block 1 (.seq (.region none (⟨some 19, .mv 1 (.t 5), none⟩ ::
      ⟨some 20, .mv 1 (.t 6), none⟩ ::
      ⟨some 21, .mv 0 (.t 7), none⟩ ::
      ⟨some 22, .call 24 [(.t 19), (.t 20), (.t 21)], none⟩ ::
      ⟨some 23, .mv 1 (.t 5), none⟩ ::
      ⟨some 24, .mv 1 (.t 6), none⟩ ::
      ⟨some 25, .mv 0 (.t 7), none⟩ ::
      ⟨some 26, .call 25 [(.t 23), (.t 24), (.t 25)], none⟩ ::
      ⟨some 27, .call 16 [(.t 22), (.t 26)], none⟩ ::
      ⟨some 28, .un .not (.t 27), none⟩ ::
      []))
    (.cond (.t 28) (c6_1) (.skip))))
  (c6_2)
def c6_4 : HCode :=
  .seq (.seq (.region none (⟨some 13, .mv 0 (.t 7), none⟩ ::
    ⟨some 14, .mv 1 (.t 5), none⟩ ::
    ⟨some 15, .len (.t 14), none⟩ ::
    ⟨some 16, .bin .leq (.t 13) (.t 15), none⟩ ::
    []))
  (.cond (.t 16) (.skip) (.exit 0)))
  (c6_3)
def c6_5 : HCode :=
  .seq (.region none (⟨some 29, .mv 1 (.t 5), none⟩ ::
    ⟨some 30, .mv 1 (.t 6), none⟩ ::
    ⟨some 31, .bsl 1 1 [(.c (.bool false))], none⟩ ::
    ⟨some 32, .app true 1 1 (.t 30) (.t 31), none⟩ ::
    ⟨some 33, .call 24 [(.t 29), (.t 32), (.c (.int .i64 0))], none⟩ ::
    ⟨some 34, .len (.t 33), none⟩ ::
    ⟨some 35, .bin .eql (.t 34) (.c (.int .i64 0)), none⟩ ::
    ⟨some 36, .mv 0 (.t 35), none⟩ ::
    ⟨some 37, .mv 0 (.t 1), some (7, true)⟩ ::
    ⟨some 38, .bin .geq (.t 37) (.c (.int .i64 0)), some (7, true)⟩ ::
    ⟨some 39, .mv 0 (.t 38), some (7, true)⟩ ::
    ⟨some 40, .mv 0 (.t 1), some (10, true)⟩ ::
    ⟨some 41, .mv 1 (.t 5), some (10, true)⟩ ::
    ⟨some 42, .len (.t 41), some (10, true)⟩ ::
    ⟨some 43, .bin .lss (.t 40) (.t 42), some (10, true)⟩ ::
    ⟨some 44, .pick (.t 39) (.t 43) (.c (.bool false)), some (7, true)⟩ ::
    ⟨some 45, .mv 0 (.t 44), some (7, true)⟩ ::
    ⟨some 46, .mv 1 (.t 5), some (16, false)⟩ ::
    ⟨some 47, .mv 1 (.t 6), some (16, false)⟩ ::
    ⟨some 48, .mv 0 (.t 1), some (16, false)⟩ ::
    ⟨some 49, .call 24 [(.t 46), (.t 47), (.t 48)], some (16, false)⟩ ::
    ⟨some 50, .len (.t 49), some (16, false)⟩ ::
    ⟨some 51, .bin .eql (.t 50) (.c (.int .i64 0)), some (16, false)⟩ ::
    ⟨some 52, .pick (.t 45) (.c (.bool true)) (.t 51), some (7, true)⟩ ::
    ⟨some 53, .pick (.t 36) (.t 52) (.c (.bool false)), none⟩ ::
    ⟨some 54, .mv 0 (.t 53), none⟩ ::
    ⟨some 55, .call 20 [], some (25, true)⟩ ::
    ⟨some 56, .pick (.t 54) (.t 55) (.c (.bool false)), none⟩ ::
    ⟨some 4, .mv 0 (.t 56), none⟩ ::
    []))
  (.ret)
def c6_6 : HCode :=
  .seq (.seq (.region none (⟨some 7, .mv 0 (.c (.int .i64 (-1))), none⟩ ::
    []))
  (.block 0 (.loop (c6_4))))
  (c6_5)
def c6_7 : HCode :=
  .seq (.region none (⟨some 9, .mv 1 (.t 0), none⟩ ::
    ⟨some 10, .call 23 [(.t 9)], none⟩ ::
    ⟨some 8, .mv 0 (.t 10), none⟩ ::
    ⟨some 11, .ext (.t 8) 0, none⟩ ::
    ⟨some 12, .ext (.t 8) 1, none⟩ ::
    ⟨some 5, .mv 1 (.t 11), none⟩ ::
    ⟨some 6, .mv 1 (.t 12), none⟩ ::
    []))
  (c6_6)
def c6 : HCode :=
  .seq (.region none (⟨some 4, .mv 0 (.c (.bool false)), none⟩ ::
    []))
  (c6_7)
theorem fc6 : funCode Try.prog 6 = some (c6, [4], 57) := by kernel_rfl

end Go.Proofs.Ytjlidhijnohkbaa
