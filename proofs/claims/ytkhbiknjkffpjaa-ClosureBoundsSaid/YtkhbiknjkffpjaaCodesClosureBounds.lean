/-
  OWN WORK, written by my own program. The law's function in the value language, checked against the translation.
-/
import Derived.Test.YtkhbiknjkffpjaaHl4
import Derived.Test.YtkhbiknjkffpjaaProg
namespace Go.Proofs.Ytkhbiknjkffpjaa
open Go.HL
set_option maxRecDepth 100000
set_option linter.unusedVariables false
def c6_1 : HCode :=
  .region none (⟨some 40, .mv 1 (.t 1), none⟩ ::
    ⟨some 41, .slc 1 (.t 40) none (some (.c (.int .i64 30))), none⟩ ::
    ⟨some 1, .mv 1 (.t 41), none⟩ ::
    [])
def c6_2 : HCode :=
  .block 1 (.region none (⟨some 80, .mv 1 (.t 24), none⟩ ::
      ⟨some 81, .bsl 1 1 [(.c (.int .i64 0))], none⟩ ::
      ⟨some 82, .app true 1 8 (.t 80) (.t 81), none⟩ ::
      ⟨some 24, .mv 1 (.t 82), none⟩ ::
      []))
def c6_3 : HCode :=
  .seq (.seq (.region none (⟨some 75, .mv 1 (.t 24), none⟩ ::
    ⟨some 76, .len (.t 75), none⟩ ::
    ⟨some 77, .mv 3 (.t 23), none⟩ ::
    ⟨some 78, .len (.t 77), none⟩ ::
    ⟨some 79, .bin .lss (.t 76) (.t 78), none⟩ ::
    []))
  (.cond (.t 79) (.skip) (.exit 0)))
  (c6_2)
def c6_4 : HCode :=
  .seq (.region none (⟨some 14, .mv 0 (.c (.bool false)), none⟩ ::
    []))
  (.ret)
def c6_5 : HCode :=
  .region none (⟨some 121, .mv 1 (.t 31), none⟩ ::
    ⟨some 122, .mv 0 (.t 5), none⟩ ::
    ⟨some 123, .mv 1 (.t 31), none⟩ ::
    ⟨some 124, .len (.t 123), none⟩ ::
    ⟨some 125, .call 30 [(.t 122), (.t 124)], none⟩ ::
    ⟨some 126, .mv 0 (.t 6), none⟩ ::
    ⟨some 127, .iaddr 1 (.t 121) (.t 125), none⟩ ::
    ⟨none, .store true 1 (.t 127) (.t 126), none⟩ ::
    [])
def c6_6 : HCode :=
  .seq (.region none (⟨some 142, .mv 0 (.t 15), none⟩ ::
    ⟨some 143, .mv 0 (.t 17), none⟩ ::
    ⟨some 144, .bin .eql (.t 142) (.t 143), none⟩ ::
    ⟨some 145, .mv 0 (.t 144), none⟩ ::
    ⟨some 146, .mv 0 (.t 16), some (3, true)⟩ ::
    ⟨some 147, .mv 0 (.t 18), some (3, true)⟩ ::
    ⟨some 148, .bin .eql (.t 146) (.t 147), some (3, true)⟩ ::
    ⟨some 149, .pick (.t 145) (.t 148) (.c (.bool false)), none⟩ ::
    ⟨some 150, .mv 0 (.t 149), none⟩ ::
    ⟨some 151, .mv 0 (.t 25), some (8, true)⟩ ::
    ⟨some 152, .mv 0 (.t 27), some (8, true)⟩ ::
    ⟨some 153, .bin .eql (.t 151) (.t 152), some (8, true)⟩ ::
    ⟨some 154, .pick (.t 150) (.t 153) (.c (.bool false)), none⟩ ::
    ⟨some 155, .mv 0 (.t 154), none⟩ ::
    ⟨some 156, .mv 0 (.t 26), some (13, true)⟩ ::
    ⟨some 157, .mv 0 (.t 28), some (13, true)⟩ ::
    ⟨some 158, .bin .eql (.t 156) (.t 157), some (13, true)⟩ ::
    ⟨some 159, .pick (.t 155) (.t 158) (.c (.bool false)), none⟩ ::
    ⟨some 160, .mv 0 (.t 159), none⟩ ::
    ⟨some 161, .mv 0 (.t 33), some (18, true)⟩ ::
    ⟨some 162, .mv 0 (.t 35), some (18, true)⟩ ::
    ⟨some 163, .bin .eql (.t 161) (.t 162), some (18, true)⟩ ::
    ⟨some 164, .pick (.t 160) (.t 163) (.c (.bool false)), none⟩ ::
    ⟨some 165, .mv 0 (.t 164), none⟩ ::
    ⟨some 166, .mv 0 (.t 34), some (23, true)⟩ ::
    ⟨some 167, .mv 0 (.t 36), some (23, true)⟩ ::
    ⟨some 168, .bin .eql (.t 166) (.t 167), some (23, true)⟩ ::
    ⟨some 169, .pick (.t 165) (.t 168) (.c (.bool false)), none⟩ ::
    ⟨some 170, .mv 0 (.t 169), none⟩ ::
    ⟨some 171, .call 21 [], some (28, true)⟩ ::
    ⟨some 172, .pick (.t 170) (.t 171) (.c (.bool false)), none⟩ ::
    ⟨some 14, .mv 0 (.t 172), none⟩ ::
    []))
  (.ret)
def c6_7 : HCode :=
  .seq (.region none (⟨some 136, .mv 1 (.t 21), none⟩ ::
    ⟨some 137, .mv 1 (.t 19), none⟩ ::
    ⟨some 138, .mv 1 (.t 31), none⟩ ::
    ⟨some 139, .call 27 [(.t 136), (.t 137), (.t 138)], none⟩ ::
    ⟨some 135, .mv 0 (.t 139), none⟩ ::
    ⟨some 140, .ext (.t 135) 0, none⟩ ::
    ⟨some 141, .ext (.t 135) 1, none⟩ ::
    ⟨some 35, .mv 0 (.t 140), none⟩ ::
    ⟨some 36, .mv 0 (.t 141), none⟩ ::
    []))
  (c6_6)
def c6_8 : HCode :=
  .seq (.region none (⟨some 129, .mv 1 (.t 21), none⟩ ::
    ⟨some 130, .mv 1 (.t 19), none⟩ ::
    ⟨some 131, .mv 1 (.t 31), none⟩ ::
    ⟨some 132, .call 28 [(.t 129), (.t 130), (.t 131)], none⟩ ::
    ⟨some 128, .mv 0 (.t 132), none⟩ ::
    ⟨some 133, .ext (.t 128) 0, none⟩ ::
    ⟨some 134, .ext (.t 128) 1, none⟩ ::
    ⟨some 33, .mv 0 (.t 133), none⟩ ::
    ⟨some 34, .mv 0 (.t 134), none⟩ ::
    []))
  (c6_7)
def c6_9 : HCode :=
  .seq (.seq (.region none (⟨some 118, .mv 1 (.t 31), none⟩ ::
    ⟨some 119, .len (.t 118), none⟩ ::
    ⟨some 120, .bin .gtr (.t 119) (.c (.int .i64 0)), none⟩ ::
    []))
  (.cond (.t 120) (c6_5) (.skip)))
  (c6_8)
def c6_10 : HCode :=
  .seq (.region none (⟨some 114, .mv 1 (.t 31), none⟩ ::
    ⟨some 115, .mv 1 (.t 31), none⟩ ::
    ⟨some 116, .len (.t 115), none⟩ ::
    ⟨some 117, .call 29 [(.t 114), (.t 116)], none⟩ ::
    ⟨some 31, .mv 1 (.t 117), none⟩ ::
    []))
  (c6_9)
def c6_11 : HCode :=
  .seq (.seq (.region none (⟨some 105, .mv 0 (.t 32), none⟩ ::
    ⟨some 106, .bin .neq (.t 105) (.c (.int .i64 0)), none⟩ ::
    ⟨some 107, .mv 0 (.t 106), none⟩ ::
    ⟨some 108, .mv 1 (.t 31), some (2, false)⟩ ::
    ⟨some 109, .len (.t 108), some (2, false)⟩ ::
    ⟨some 110, .mv 3 (.t 23), some (2, false)⟩ ::
    ⟨some 111, .len (.t 110), some (2, false)⟩ ::
    ⟨some 112, .bin .neq (.t 109) (.t 111), some (2, false)⟩ ::
    ⟨some 113, .pick (.t 107) (.c (.bool true)) (.t 112), none⟩ ::
    []))
  (.cond (.t 113) (c6_4) (.skip)))
  (c6_10)
def c6_12 : HCode :=
  .seq (.region none (⟨some 98, .mv 1 (.t 21), none⟩ ::
    ⟨some 99, .mv 1 (.t 19), none⟩ ::
    ⟨some 100, .call 25 [(.t 98), (.t 99)], none⟩ ::
    ⟨some 97, .mv 0 (.t 100), none⟩ ::
    ⟨some 101, .ext (.t 97) 0, none⟩ ::
    ⟨some 102, .ext (.t 97) 1, none⟩ ::
    ⟨some 103, .ext (.t 97) 2, none⟩ ::
    ⟨some 104, .ext (.t 97) 3, none⟩ ::
    ⟨some 29, .mv 1 (.t 101), none⟩ ::
    ⟨some 30, .mv 0 (.t 102), none⟩ ::
    ⟨some 31, .mv 1 (.t 103), none⟩ ::
    ⟨some 32, .mv 0 (.t 104), none⟩ ::
    []))
  (c6_11)
def c6_13 : HCode :=
  .seq (.region none (⟨some 91, .mv 1 (.t 21), none⟩ ::
    ⟨some 92, .mv 1 (.t 19), none⟩ ::
    ⟨some 93, .mv 1 (.t 24), none⟩ ::
    ⟨some 94, .call 27 [(.t 91), (.t 92), (.t 93)], none⟩ ::
    ⟨some 90, .mv 0 (.t 94), none⟩ ::
    ⟨some 95, .ext (.t 90) 0, none⟩ ::
    ⟨some 96, .ext (.t 90) 1, none⟩ ::
    ⟨some 27, .mv 0 (.t 95), none⟩ ::
    ⟨some 28, .mv 0 (.t 96), none⟩ ::
    []))
  (c6_12)
def c6_14 : HCode :=
  .seq (.region none (⟨some 84, .mv 1 (.t 21), none⟩ ::
    ⟨some 85, .mv 1 (.t 19), none⟩ ::
    ⟨some 86, .mv 1 (.t 24), none⟩ ::
    ⟨some 87, .call 28 [(.t 84), (.t 85), (.t 86)], none⟩ ::
    ⟨some 83, .mv 0 (.t 87), none⟩ ::
    ⟨some 88, .ext (.t 83) 0, none⟩ ::
    ⟨some 89, .ext (.t 83) 1, none⟩ ::
    ⟨some 25, .mv 0 (.t 88), none⟩ ::
    ⟨some 26, .mv 0 (.t 89), none⟩ ::
    []))
  (c6_13)
def c6_15 : HCode :=
  .seq (.region none (⟨some 71, .mv 1 (.t 2), none⟩ ::
    ⟨some 72, .mv 3 (.t 23), none⟩ ::
    ⟨some 73, .len (.t 72), none⟩ ::
    ⟨some 74, .call 29 [(.t 71), (.t 73)], none⟩ ::
    ⟨some 24, .mv 1 (.t 74), none⟩ ::
    []))
  (.seq (.block 0 (.loop (c6_3)))
  (c6_14))
def c6_16 : HCode :=
  .seq (.region none (⟨some 66, .mv 1 (.t 21), none⟩ ::
    ⟨some 67, .mv 1 (.t 19), none⟩ ::
    ⟨some 68, .call 23 [(.t 66), (.t 67)], none⟩ ::
    ⟨some 65, .mv 0 (.t 68), none⟩ ::
    ⟨some 69, .ext (.t 65) 0, none⟩ ::
    ⟨some 70, .ext (.t 65) 1, none⟩ ::
    ⟨some 22, .mv 0 (.t 69), none⟩ ::
    ⟨some 23, .mv 3 (.t 70), none⟩ ::
    []))
  (c6_15)
def c6_17 : HCode :=
  .seq (.region none (⟨some 61, .mv 1 (.t 4), none⟩ ::
    ⟨some 62, .mv 1 (.t 19), none⟩ ::
    ⟨some 63, .len (.t 62), none⟩ ::
    ⟨some 64, .call 20 [(.t 61), (.t 63)], none⟩ ::
    ⟨some 21, .mv 1 (.t 64), none⟩ ::
    []))
  (c6_16)
def c6_18 : HCode :=
  .seq (.region none (⟨some 57, .mv 1 (.t 3), none⟩ ::
    ⟨some 58, .call 11 [(.t 57)], none⟩ ::
    ⟨some 56, .mv 0 (.t 58), none⟩ ::
    ⟨some 59, .ext (.t 56) 0, none⟩ ::
    ⟨some 60, .ext (.t 56) 1, none⟩ ::
    ⟨some 19, .mv 1 (.t 59), none⟩ ::
    ⟨some 20, .mv 1 (.t 60), none⟩ ::
    []))
  (c6_17)
def c6_19 : HCode :=
  .seq (.region none (⟨some 50, .mv 1 (.t 0), none⟩ ::
    ⟨some 51, .mv 1 (.t 1), none⟩ ::
    ⟨some 52, .mv 1 (.t 2), none⟩ ::
    ⟨some 53, .call 27 [(.t 50), (.t 51), (.t 52)], none⟩ ::
    ⟨some 49, .mv 0 (.t 53), none⟩ ::
    ⟨some 54, .ext (.t 49) 0, none⟩ ::
    ⟨some 55, .ext (.t 49) 1, none⟩ ::
    ⟨some 17, .mv 0 (.t 54), none⟩ ::
    ⟨some 18, .mv 0 (.t 55), none⟩ ::
    []))
  (c6_18)
def c6_20 : HCode :=
  .seq (.region none (⟨some 43, .mv 1 (.t 0), none⟩ ::
    ⟨some 44, .mv 1 (.t 1), none⟩ ::
    ⟨some 45, .mv 1 (.t 2), none⟩ ::
    ⟨some 46, .call 28 [(.t 43), (.t 44), (.t 45)], none⟩ ::
    ⟨some 42, .mv 0 (.t 46), none⟩ ::
    ⟨some 47, .ext (.t 42) 0, none⟩ ::
    ⟨some 48, .ext (.t 42) 1, none⟩ ::
    ⟨some 15, .mv 0 (.t 47), none⟩ ::
    ⟨some 16, .mv 0 (.t 48), none⟩ ::
    []))
  (c6_19)
def c6_21 : HCode :=
  .seq (.seq (.region none (⟨some 37, .mv 1 (.t 1), none⟩ ::
    ⟨some 38, .len (.t 37), none⟩ ::
    ⟨some 39, .bin .gtr (.t 38) (.c (.int .i64 30)), none⟩ ::
    []))
  (.cond (.t 39) (c6_1) (.skip)))
  (c6_20)
def c6 : HCode :=
  .seq (.region none (⟨some 14, .mv 0 (.c (.bool false)), none⟩ ::
    []))
  (c6_21)
theorem fc6 : funCode Try.prog 6 = some (c6, [14], 173) := by kernel_rfl

end Go.Proofs.Ytkhbiknjkffpjaa
