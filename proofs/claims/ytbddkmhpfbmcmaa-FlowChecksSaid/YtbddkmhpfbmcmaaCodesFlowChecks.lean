/-
  OWN WORK, written by my own program. The law's function in the value language, checked against the translation.
-/
import Derived.Test.YtbddkmhpfbmcmaaHl4
import Derived.Test.YtbddkmhpfbmcmaaProg
namespace Go.Proofs.Ytbddkmhpfbmcmaa
open Go.HL
set_option maxRecDepth 100000
set_option linter.unusedVariables false
def c4_1 : HCode :=
  .seq (.region none (⟨some 10, .mv 0 (.c (.bool false)), none⟩ ::
    []))
  (.ret)
def c4_2 : HCode :=
  .region none (⟨some 106, .mv 1 (.t 18), none⟩ ::
    ⟨some 107, .bsl 1 0 [], none⟩ ::
    ⟨some 108, .mv 1 (.t 19), none⟩ ::
    ⟨some 109, .app true 1 8 (.t 107) (.t 108), none⟩ ::
    ⟨some 110, .bsl 1 1 [(.t 109)], none⟩ ::
    ⟨some 111, .app false 1 24 (.t 106) (.t 110), none⟩ ::
    ⟨some 18, .mv 1 (.t 111), none⟩ ::
    [])
def c4_3 : HCode :=
  .seq (.region (some [0, 0, 0, 0, 12, 28, 0, 0, 192, 448, 960, 2044, 4092, 8191, 16383]) (⟨some 92, .mv 1 (.t 19), none⟩ ::
    ⟨some 93, .mv 0 (.t 21), none⟩ ::
    ⟨some 94, .mv 1 (.t 19), none⟩ ::
    ⟨some 95, .mv 0 (.t 21), none⟩ ::
    ⟨some 96, .iaddr 1 (.t 94) (.t 95), none⟩ ::
    ⟨some 97, .load false 1 (.t 96), none⟩ ::
    ⟨some 98, .mv 1 (.t 2), none⟩ ::
    ⟨some 99, .mv 0 (.t 20), none⟩ ::
    ⟨some 100, .iaddr 1 (.t 98) (.t 99), none⟩ ::
    ⟨some 101, .load false 1 (.t 100), none⟩ ::
    ⟨some 102, .call 20 [(.t 101), (.c (.int .i64 7))], none⟩ ::
    ⟨some 103, .bin .add (.t 97) (.t 102), none⟩ ::
    ⟨some 104, .bin .sub (.t 103) (.c (.int .i64 3)), none⟩ ::
    ⟨some 105, .iaddr 1 (.t 92) (.t 93), none⟩ ::
    ⟨none, .store true 1 (.t 105) (.t 104), none⟩ ::
    []))
  (c4_2)
def c4_4 : HCode :=
  .region none (⟨some 83, .mv 0 (.t 20), none⟩ ::
    ⟨some 84, .bin .add (.t 83) (.c (.int .i64 1)), none⟩ ::
    ⟨some 20, .mv 0 (.t 84), none⟩ ::
    [])
def c4_5 : HCode :=
  .seq (.block 1 (.seq (.region none (⟨some 85, .mv 1 (.t 1), none⟩ ::
      ⟨some 86, .mv 0 (.t 20), none⟩ ::
      ⟨some 87, .iaddr 1 (.t 85) (.t 86), none⟩ ::
      ⟨some 88, .load false 1 (.t 87), none⟩ ::
      ⟨some 89, .mv 1 (.t 19), none⟩ ::
      ⟨some 90, .len (.t 89), none⟩ ::
      ⟨some 91, .call 20 [(.t 88), (.t 90)], none⟩ ::
      ⟨some 21, .mv 0 (.t 91), none⟩ ::
      []))
    (c4_3)))
  (c4_4)
def c4_6 : HCode :=
  .seq (.seq (.region none (⟨some 64, .mv 0 (.t 20), none⟩ ::
    ⟨some 65, .mv 1 (.t 1), none⟩ ::
    ⟨some 66, .len (.t 65), none⟩ ::
    ⟨some 67, .bin .lss (.t 64) (.t 66), none⟩ ::
    ⟨some 68, .mv 0 (.t 67), none⟩ ::
    ⟨some 69, .mv 0 (.t 20), some (4, true)⟩ ::
    ⟨some 70, .mv 1 (.t 2), some (4, true)⟩ ::
    ⟨some 71, .len (.t 70), some (4, true)⟩ ::
    ⟨some 72, .bin .lss (.t 69) (.t 71), some (4, true)⟩ ::
    ⟨some 73, .pick (.t 68) (.t 72) (.c (.bool false)), none⟩ ::
    ⟨some 74, .mv 0 (.t 73), none⟩ ::
    ⟨some 75, .mv 0 (.t 20), some (10, true)⟩ ::
    ⟨some 76, .bin .lss (.t 75) (.c (.int .i64 5)), some (10, true)⟩ ::
    ⟨some 77, .pick (.t 74) (.t 76) (.c (.bool false)), none⟩ ::
    ⟨some 78, .mv 0 (.t 77), none⟩ ::
    ⟨some 79, .mv 1 (.t 19), some (14, true)⟩ ::
    ⟨some 80, .len (.t 79), some (14, true)⟩ ::
    ⟨some 81, .bin .gtr (.t 80) (.c (.int .i64 0)), some (14, true)⟩ ::
    ⟨some 82, .pick (.t 78) (.t 81) (.c (.bool false)), none⟩ ::
    []))
  (.cond (.t 82) (.skip) (.exit 0)))
  (c4_5)
def c4_7 : HCode :=
  .seq (.region none (⟨some 10, .mv 0 (.c (.bool false)), none⟩ ::
    []))
  (.ret)
def c4_8 : HCode :=
  .seq (.region none (⟨some 10, .mv 0 (.c (.bool false)), none⟩ ::
    []))
  (.ret)
def c4_9 : HCode :=
  .seq (.region none (⟨some 180, .mv 0 (.t 23), none⟩ ::
    ⟨some 181, .mv 0 (.t 25), none⟩ ::
    ⟨some 182, .bin .neq (.t 180) (.t 181), none⟩ ::
    ⟨some 183, .mv 0 (.t 182), none⟩ ::
    ⟨some 184, .mv 0 (.t 24), some (3, false)⟩ ::
    ⟨some 185, .mv 0 (.t 26), some (3, false)⟩ ::
    ⟨some 186, .bin .neq (.t 184) (.t 185), some (3, false)⟩ ::
    ⟨some 187, .pick (.t 183) (.c (.bool true)) (.t 186), none⟩ ::
    []))
  (.cond (.t 187) (c4_8) (.skip))
def c4_10 : HCode :=
  .seq (.region none (⟨some 169, .mv 0 (.t 11), none⟩ ::
    ⟨some 170, .mv 3 (.t 27), none⟩ ::
    ⟨some 171, .mv 0 (.t 13), none⟩ ::
    ⟨some 172, .mv 0 (.t 14), none⟩ ::
    ⟨some 173, .mv 1 (.t 18), none⟩ ::
    ⟨some 174, .mv 0 (.t 22), none⟩ ::
    ⟨some 175, .iaddr 1 (.t 173) (.t 174), none⟩ ::
    ⟨some 176, .load false 1 (.t 175), none⟩ ::
    ⟨some 177, .call 22 [(.t 169), (.t 170), (.t 171), (.t 172), (.t 176)], none⟩ ::
    ⟨some 168, .mv 0 (.t 177), none⟩ ::
    ⟨some 178, .ext (.t 168) 0, none⟩ ::
    ⟨some 179, .ext (.t 168) 1, none⟩ ::
    ⟨some 25, .mv 0 (.t 178), none⟩ ::
    ⟨some 26, .mv 0 (.t 179), none⟩ ::
    []))
  (c4_9)
def c4_11 : HCode :=
  .seq (.region none (⟨some 157, .mv 0 (.t 11), none⟩ ::
    ⟨some 158, .mv 3 (.t 27), none⟩ ::
    ⟨some 159, .mv 0 (.t 13), none⟩ ::
    ⟨some 160, .mv 0 (.t 14), none⟩ ::
    ⟨some 161, .mv 1 (.t 18), none⟩ ::
    ⟨some 162, .mv 0 (.t 22), none⟩ ::
    ⟨some 163, .iaddr 1 (.t 161) (.t 162), none⟩ ::
    ⟨some 164, .load false 1 (.t 163), none⟩ ::
    ⟨some 165, .call 21 [(.t 157), (.t 158), (.t 159), (.t 160), (.t 164)], none⟩ ::
    ⟨some 156, .mv 0 (.t 165), none⟩ ::
    ⟨some 166, .ext (.t 156) 0, none⟩ ::
    ⟨some 167, .ext (.t 156) 1, none⟩ ::
    ⟨some 23, .mv 0 (.t 166), none⟩ ::
    ⟨some 24, .mv 0 (.t 167), none⟩ ::
    []))
  (c4_10)
def c4_12 : HCode :=
  .seq (.region none (⟨some 150, .mv 3 (.t 12), none⟩ ::
    ⟨some 151, .mv 0 (.t 11), none⟩ ::
    ⟨some 152, .mv 0 (.t 4), none⟩ ::
    ⟨some 153, .mv 0 (.t 4), none⟩ ::
    ⟨some 154, .bin .quo (.t 153) (.c (.int .i64 7)), none⟩ ::
    ⟨some 155, .call 16 [(.t 150), (.t 151), (.t 152), (.t 154)], none⟩ ::
    ⟨some 27, .mv 3 (.t 155), none⟩ ::
    []))
  (c4_11)
def c4_13 : HCode :=
  .seq (.seq (.region none (⟨some 142, .mv 0 (.t 23), none⟩ ::
    ⟨some 143, .mv 0 (.t 25), none⟩ ::
    ⟨some 144, .bin .neq (.t 142) (.t 143), none⟩ ::
    ⟨some 145, .mv 0 (.t 144), none⟩ ::
    ⟨some 146, .mv 0 (.t 24), some (3, false)⟩ ::
    ⟨some 147, .mv 0 (.t 26), some (3, false)⟩ ::
    ⟨some 148, .bin .neq (.t 146) (.t 147), some (3, false)⟩ ::
    ⟨some 149, .pick (.t 145) (.c (.bool true)) (.t 148), none⟩ ::
    []))
  (.cond (.t 149) (c4_7) (.skip)))
  (c4_12)
def c4_14 : HCode :=
  .seq (.region none (⟨some 131, .mv 0 (.t 11), none⟩ ::
    ⟨some 132, .mv 3 (.t 12), none⟩ ::
    ⟨some 133, .mv 0 (.t 13), none⟩ ::
    ⟨some 134, .mv 0 (.t 14), none⟩ ::
    ⟨some 135, .mv 1 (.t 18), none⟩ ::
    ⟨some 136, .mv 0 (.t 22), none⟩ ::
    ⟨some 137, .iaddr 1 (.t 135) (.t 136), none⟩ ::
    ⟨some 138, .load false 1 (.t 137), none⟩ ::
    ⟨some 139, .call 22 [(.t 131), (.t 132), (.t 133), (.t 134), (.t 138)], none⟩ ::
    ⟨some 130, .mv 0 (.t 139), none⟩ ::
    ⟨some 140, .ext (.t 130) 0, none⟩ ::
    ⟨some 141, .ext (.t 130) 1, none⟩ ::
    ⟨some 25, .mv 0 (.t 140), none⟩ ::
    ⟨some 26, .mv 0 (.t 141), none⟩ ::
    []))
  (c4_13)
def c4_15 : HCode :=
  .region none (⟨some 116, .mv 0 (.t 22), none⟩ ::
    ⟨some 117, .bin .add (.t 116) (.c (.int .i64 1)), none⟩ ::
    ⟨some 22, .mv 0 (.t 117), none⟩ ::
    [])
def c4_16 : HCode :=
  .seq (.block 3 (.seq (.region none (⟨some 119, .mv 0 (.t 11), none⟩ ::
      ⟨some 120, .mv 3 (.t 12), none⟩ ::
      ⟨some 121, .mv 0 (.t 13), none⟩ ::
      ⟨some 122, .mv 0 (.t 14), none⟩ ::
      ⟨some 123, .mv 1 (.t 18), none⟩ ::
      ⟨some 124, .mv 0 (.t 22), none⟩ ::
      ⟨some 125, .iaddr 1 (.t 123) (.t 124), none⟩ ::
      ⟨some 126, .load false 1 (.t 125), none⟩ ::
      ⟨some 127, .call 21 [(.t 119), (.t 120), (.t 121), (.t 122), (.t 126)], none⟩ ::
      ⟨some 118, .mv 0 (.t 127), none⟩ ::
      ⟨some 128, .ext (.t 118) 0, none⟩ ::
      ⟨some 129, .ext (.t 118) 1, none⟩ ::
      ⟨some 23, .mv 0 (.t 128), none⟩ ::
      ⟨some 24, .mv 0 (.t 129), none⟩ ::
      []))
    (c4_14)))
  (c4_15)
def c4_17 : HCode :=
  .seq (.seq (.region none (⟨some 112, .mv 0 (.t 22), none⟩ ::
    ⟨some 113, .mv 1 (.t 18), none⟩ ::
    ⟨some 114, .len (.t 113), none⟩ ::
    ⟨some 115, .bin .lss (.t 112) (.t 114), none⟩ ::
    []))
  (.cond (.t 115) (.skip) (.exit 2)))
  (c4_16)
def c4_18 : HCode :=
  .seq (.region none (⟨some 188, .call 19 [], none⟩ ::
    ⟨some 10, .mv 0 (.t 188), none⟩ ::
    []))
  (.ret)
def c4_19 : HCode :=
  .seq (.seq (.region none (⟨some 22, .mv 0 (.c (.int .i64 0)), none⟩ ::
    []))
  (.block 2 (.loop (c4_17))))
  (c4_18)
def c4_20 : HCode :=
  .seq (.seq (.region none (⟨some 20, .mv 0 (.c (.int .i64 0)), none⟩ ::
    []))
  (.block 0 (.loop (c4_6))))
  (c4_19)
def c4_21 : HCode :=
  .seq (.region none (⟨some 61, .bsl 1 0 [], none⟩ ::
    ⟨some 62, .mv 1 (.t 16), none⟩ ::
    ⟨some 63, .app true 1 8 (.t 61) (.t 62), none⟩ ::
    ⟨some 19, .mv 1 (.t 63), none⟩ ::
    []))
  (c4_20)
def c4_22 : HCode :=
  .seq (.region none (⟨some 53, .mv 1 (.t 16), none⟩ ::
    ⟨some 54, .mv 1 (.t 3), none⟩ ::
    ⟨some 55, .bsl 1 0 [], none⟩ ::
    ⟨some 56, .mv 1 (.t 16), none⟩ ::
    ⟨some 57, .app true 1 8 (.t 55) (.t 56), none⟩ ::
    ⟨some 58, .bsl 1 1 [(.c (.int .i64 0))], none⟩ ::
    ⟨some 59, .app true 1 8 (.t 57) (.t 58), none⟩ ::
    ⟨some 60, .bsl 1 3 [(.t 53), (.t 54), (.t 59)], none⟩ ::
    ⟨some 18, .mv 1 (.t 60), none⟩ ::
    []))
  (c4_21)
def c4_23 : HCode :=
  .seq (.seq (.region none (⟨some 44, .mv 0 (.t 17), none⟩ ::
    ⟨some 45, .bin .neq (.t 44) (.c (.int .i64 0)), none⟩ ::
    ⟨some 46, .mv 0 (.t 45), none⟩ ::
    ⟨some 47, .mv 1 (.t 16), some (2, false)⟩ ::
    ⟨some 48, .len (.t 47), some (2, false)⟩ ::
    ⟨some 49, .mv 3 (.t 12), some (2, false)⟩ ::
    ⟨some 50, .len (.t 49), some (2, false)⟩ ::
    ⟨some 51, .bin .neq (.t 48) (.t 50), some (2, false)⟩ ::
    ⟨some 52, .pick (.t 46) (.c (.bool true)) (.t 51), none⟩ ::
    []))
  (.cond (.t 52) (c4_1) (.skip)))
  (c4_22)
def c4_24 : HCode :=
  .seq (.region none (⟨some 36, .mv 0 (.t 11), none⟩ ::
    ⟨some 37, .mv 3 (.t 12), none⟩ ::
    ⟨some 38, .mv 0 (.t 13), none⟩ ::
    ⟨some 39, .mv 0 (.t 14), none⟩ ::
    ⟨some 40, .call 13 [(.t 36), (.t 37), (.t 38), (.t 39)], none⟩ ::
    ⟨some 35, .mv 0 (.t 40), none⟩ ::
    ⟨some 41, .ext (.t 35) 0, none⟩ ::
    ⟨some 42, .ext (.t 35) 1, none⟩ ::
    ⟨some 43, .ext (.t 35) 2, none⟩ ::
    ⟨some 15, .mv 0 (.t 41), none⟩ ::
    ⟨some 16, .mv 1 (.t 42), none⟩ ::
    ⟨some 17, .mv 0 (.t 43), none⟩ ::
    []))
  (c4_23)
def c4_25 : HCode :=
  .seq (.region none (⟨some 29, .mv 1 (.t 0), none⟩ ::
    ⟨some 30, .call 11 [(.t 29)], none⟩ ::
    ⟨some 28, .mv 0 (.t 30), none⟩ ::
    ⟨some 31, .ext (.t 28) 0, none⟩ ::
    ⟨some 32, .ext (.t 28) 1, none⟩ ::
    ⟨some 33, .ext (.t 28) 2, none⟩ ::
    ⟨some 34, .ext (.t 28) 3, none⟩ ::
    ⟨some 11, .mv 0 (.t 31), none⟩ ::
    ⟨some 12, .mv 3 (.t 32), none⟩ ::
    ⟨some 13, .mv 0 (.t 33), none⟩ ::
    ⟨some 14, .mv 0 (.t 34), none⟩ ::
    []))
  (c4_24)
def c4 : HCode :=
  .seq (.region none (⟨some 10, .mv 0 (.c (.bool false)), none⟩ ::
    []))
  (c4_25)
theorem fc4 : funCode Try.prog 4 = some (c4, [10], 189) := by kernel_rfl

end Go.Proofs.Ytbddkmhpfbmcmaa
