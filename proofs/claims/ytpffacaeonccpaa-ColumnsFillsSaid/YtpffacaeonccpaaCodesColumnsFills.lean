/-
  OWN WORK, written by my own program. The law's function in the value language, checked against the translation.
-/
import Derived.Test.YtpffacaeonccpaaHl4
import Derived.Test.YtpffacaeonccpaaProg
namespace Go.Proofs.Ytpffacaeonccpaa
open Go.HL
set_option maxRecDepth 100000
set_option linter.unusedVariables false
def c3_1 : HCode :=
  .seq (.region none (⟨some 8, .mv 0 (.c (.bool false)), none⟩ ::
    []))
  (.ret)
def c3_2 : HCode :=
  .region none (⟨some 19, .mv 0 (.c (.int .i64 1)), none⟩ ::
    [])
def c3_3 : HCode :=
  .seq (.region none (⟨some 107, .mv 1 (.t 14), none⟩ ::
    ⟨some 108, .mv 0 (.t 15), none⟩ ::
    ⟨some 109, .mv 0 (.t 16), none⟩ ::
    ⟨some 110, .call 7 [(.t 107), (.t 108), (.t 109)], none⟩ ::
    ⟨some 111, .mv 0 (.t 110), none⟩ ::
    ⟨some 112, .mv 0 (.t 11), some (4, true)⟩ ::
    ⟨some 113, .mv 0 (.t 13), some (4, true)⟩ ::
    ⟨some 114, .bin .eql (.t 112) (.t 113), some (4, true)⟩ ::
    ⟨some 115, .pick (.t 111) (.t 114) (.c (.bool false)), none⟩ ::
    ⟨some 116, .mv 0 (.t 115), none⟩ ::
    ⟨some 117, .mv 1 (.t 10), some (9, true)⟩ ::
    ⟨some 118, .mv 1 (.t 12), some (9, true)⟩ ::
    ⟨some 119, .call 9 [(.t 117), (.t 118)], some (9, true)⟩ ::
    ⟨some 120, .pick (.t 116) (.t 119) (.c (.bool false)), none⟩ ::
    ⟨some 121, .mv 0 (.t 120), none⟩ ::
    ⟨some 122, .mv 0 (.t 18), some (14, true)⟩ ::
    ⟨some 123, .mv 0 (.t 19), some (14, true)⟩ ::
    ⟨some 124, .bin .eql (.t 122) (.t 123), some (14, true)⟩ ::
    ⟨some 125, .pick (.t 121) (.t 124) (.c (.bool false)), none⟩ ::
    ⟨some 126, .mv 0 (.t 125), none⟩ ::
    ⟨some 127, .call 12 [], some (19, true)⟩ ::
    ⟨some 128, .pick (.t 126) (.t 127) (.c (.bool false)), none⟩ ::
    ⟨some 8, .mv 0 (.t 128), none⟩ ::
    []))
  (.ret)
def c3_4 : HCode :=
  .seq (.seq (.region none (⟨some 91, .mv 0 (.t 15), none⟩ ::
    ⟨some 92, .bin .mul (.c (.int .i64 64)) (.t 91), none⟩ ::
    ⟨some 93, .mv 0 (.t 16), none⟩ ::
    ⟨some 94, .bin .mul (.t 92) (.t 93), none⟩ ::
    ⟨some 95, .bin .add (.t 94) (.c (.int .i64 1)), none⟩ ::
    ⟨some 96, .bin .sub (.t 95) (.c (.int .i64 512)), none⟩ ::
    ⟨some 97, .bin .gtr (.t 96) (.c (.int .i64 512)), none⟩ ::
    ⟨some 98, .mv 0 (.t 97), none⟩ ::
    ⟨some 99, .mv 0 (.t 15), some (7, false)⟩ ::
    ⟨some 100, .bin .mul (.c (.int .i64 64)) (.t 99), some (7, false)⟩ ::
    ⟨some 101, .mv 0 (.t 16), some (7, false)⟩ ::
    ⟨some 102, .bin .mul (.t 100) (.t 101), some (7, false)⟩ ::
    ⟨some 103, .bin .add (.t 102) (.c (.int .i64 1)), some (7, false)⟩ ::
    ⟨some 104, .bin .sub (.t 103) (.c (.int .i64 512)), some (7, false)⟩ ::
    ⟨some 105, .bin .lss (.t 104) (.c (.int .i64 1)), some (7, false)⟩ ::
    ⟨some 106, .pick (.t 98) (.c (.bool true)) (.t 105), none⟩ ::
    []))
  (.cond (.t 106) (c3_2) (.skip)))
  (c3_3)
def c3_5 : HCode :=
  .seq (.region none (⟨some 19, .mv 0 (.c (.int .i64 4)), none⟩ ::
    []))
  (c3_4)
def c3_6 : HCode :=
  .seq (.region none (⟨some 79, .mv 0 (.t 15), none⟩ ::
    ⟨some 80, .bin .mul (.c (.int .i64 64)) (.t 79), none⟩ ::
    ⟨some 81, .mv 0 (.t 16), none⟩ ::
    ⟨some 82, .bin .mul (.t 80) (.t 81), none⟩ ::
    ⟨some 83, .bin .add (.t 82) (.c (.int .i64 1)), none⟩ ::
    ⟨some 84, .bin .sub (.t 83) (.c (.int .i64 512)), none⟩ ::
    ⟨some 85, .bsl 1 2 [(.c (.int .i64 512)), (.t 84)], none⟩ ::
    ⟨some 86, .mv 0 (.t 15), none⟩ ::
    ⟨some 87, .mv 0 (.t 16), none⟩ ::
    ⟨some 88, .call 5 [(.t 85), (.t 86), (.t 87)], none⟩ ::
    ⟨some 78, .mv 0 (.t 88), none⟩ ::
    ⟨some 89, .ext (.t 78) 0, none⟩ ::
    ⟨some 90, .ext (.t 78) 1, none⟩ ::
    ⟨some 17, .mv 1 (.t 89), none⟩ ::
    ⟨some 18, .mv 0 (.t 90), none⟩ ::
    []))
  (c3_5)
def c3_7 : HCode :=
  .seq (.region none (⟨some 72, .mv 1 (.t 14), none⟩ ::
    ⟨some 73, .mv 0 (.t 15), none⟩ ::
    ⟨some 74, .mv 0 (.t 16), none⟩ ::
    ⟨some 75, .call 6 [(.t 72), (.t 73), (.t 74)], none⟩ ::
    ⟨some 71, .mv 0 (.t 75), none⟩ ::
    ⟨some 76, .ext (.t 71) 0, none⟩ ::
    ⟨some 77, .ext (.t 71) 1, none⟩ ::
    ⟨some 12, .mv 1 (.t 76), none⟩ ::
    ⟨some 13, .mv 0 (.t 77), none⟩ ::
    []))
  (c3_6)
def c3_8 : HCode :=
  .seq (.region none (⟨some 65, .mv 1 (.t 14), none⟩ ::
    ⟨some 66, .mv 0 (.t 15), none⟩ ::
    ⟨some 67, .mv 0 (.t 16), none⟩ ::
    ⟨some 68, .call 5 [(.t 65), (.t 66), (.t 67)], none⟩ ::
    ⟨some 64, .mv 0 (.t 68), none⟩ ::
    ⟨some 69, .ext (.t 64) 0, none⟩ ::
    ⟨some 70, .ext (.t 64) 1, none⟩ ::
    ⟨some 10, .mv 1 (.t 69), none⟩ ::
    ⟨some 11, .mv 0 (.t 70), none⟩ ::
    []))
  (c3_7)
def c3_9 : HCode :=
  .seq (.region none (⟨some 59, .mv 0 (.t 2), none⟩ ::
    ⟨some 60, .mv 0 (.t 3), none⟩ ::
    ⟨some 61, .call 11 [(.t 59), (.t 60)], none⟩ ::
    ⟨some 58, .mv 0 (.t 61), none⟩ ::
    ⟨some 62, .ext (.t 58) 0, none⟩ ::
    ⟨some 63, .ext (.t 58) 1, none⟩ ::
    ⟨some 15, .mv 0 (.t 62), none⟩ ::
    ⟨some 16, .mv 0 (.t 63), none⟩ ::
    []))
  (c3_8)
def c3_10 : HCode :=
  .seq (.region none (⟨some 56, .mv 1 (.t 1), none⟩ ::
    ⟨some 57, .call 10 [(.t 56)], none⟩ ::
    ⟨some 14, .mv 1 (.t 57), none⟩ ::
    []))
  (c3_9)
def c3_11 : HCode :=
  .seq (.seq (.region none (⟨some 36, .mv 1 (.t 9), none⟩ ::
    ⟨some 37, .mv 0 (.t 2), none⟩ ::
    ⟨some 38, .mv 0 (.t 3), none⟩ ::
    ⟨some 39, .call 7 [(.t 36), (.t 37), (.t 38)], none⟩ ::
    ⟨some 40, .mv 1 (.t 9), none⟩ ::
    ⟨some 41, .mv 0 (.t 2), none⟩ ::
    ⟨some 42, .mv 0 (.t 3), none⟩ ::
    ⟨some 43, .call 8 [(.t 40), (.t 41), (.t 42)], none⟩ ::
    ⟨some 44, .beq true (.t 39) (.t 43), none⟩ ::
    ⟨some 45, .mv 0 (.t 44), none⟩ ::
    ⟨some 46, .mv 0 (.t 11), some (9, false)⟩ ::
    ⟨some 47, .mv 0 (.t 13), some (9, false)⟩ ::
    ⟨some 48, .bin .neq (.t 46) (.t 47), some (9, false)⟩ ::
    ⟨some 49, .pick (.t 45) (.c (.bool true)) (.t 48), none⟩ ::
    ⟨some 50, .mv 0 (.t 49), none⟩ ::
    ⟨some 51, .mv 1 (.t 10), some (14, false)⟩ ::
    ⟨some 52, .mv 1 (.t 12), some (14, false)⟩ ::
    ⟨some 53, .call 9 [(.t 51), (.t 52)], some (14, false)⟩ ::
    ⟨some 54, .un .not (.t 53), some (14, false)⟩ ::
    ⟨some 55, .pick (.t 50) (.c (.bool true)) (.t 54), none⟩ ::
    []))
  (.cond (.t 55) (c3_1) (.skip)))
  (c3_10)
def c3_12 : HCode :=
  .seq (.region none (⟨some 30, .mv 1 (.t 9), none⟩ ::
    ⟨some 31, .mv 0 (.t 2), none⟩ ::
    ⟨some 32, .mv 0 (.t 3), none⟩ ::
    ⟨some 33, .call 6 [(.t 30), (.t 31), (.t 32)], none⟩ ::
    ⟨some 29, .mv 0 (.t 33), none⟩ ::
    ⟨some 34, .ext (.t 29) 0, none⟩ ::
    ⟨some 35, .ext (.t 29) 1, none⟩ ::
    ⟨some 12, .mv 1 (.t 34), none⟩ ::
    ⟨some 13, .mv 0 (.t 35), none⟩ ::
    []))
  (c3_11)
def c3_13 : HCode :=
  .seq (.region none (⟨some 23, .mv 1 (.t 9), none⟩ ::
    ⟨some 24, .mv 0 (.t 2), none⟩ ::
    ⟨some 25, .mv 0 (.t 3), none⟩ ::
    ⟨some 26, .call 5 [(.t 23), (.t 24), (.t 25)], none⟩ ::
    ⟨some 22, .mv 0 (.t 26), none⟩ ::
    ⟨some 27, .ext (.t 22) 0, none⟩ ::
    ⟨some 28, .ext (.t 22) 1, none⟩ ::
    ⟨some 10, .mv 1 (.t 27), none⟩ ::
    ⟨some 11, .mv 0 (.t 28), none⟩ ::
    []))
  (c3_12)
def c3_14 : HCode :=
  .seq (.region none (⟨some 20, .mv 1 (.t 0), none⟩ ::
    ⟨some 21, .call 4 [(.t 20), (.c (.int .i64 14))], none⟩ ::
    ⟨some 9, .mv 1 (.t 21), none⟩ ::
    []))
  (c3_13)
def c3 : HCode :=
  .seq (.region none (⟨some 8, .mv 0 (.c (.bool false)), none⟩ ::
    []))
  (c3_14)
theorem fc3 : funCode Try.prog 3 = some (c3, [8], 129) := by kernel_rfl

end Go.Proofs.Ytpffacaeonccpaa
