/-
  OWN WORK, written by my own program. The law's function in the value language, checked against the translation.
-/
import Derived.Test.YtkhbiknjkffpjaaHl4
import Derived.Test.YtkhbiknjkffpjaaProg
namespace Go.Proofs.Ytkhbiknjkffpjaa
open Go.HL
set_option maxRecDepth 100000
set_option linter.unusedVariables false
def c10_1 : HCode :=
  .seq (.region none (⟨some 6, .mv 0 (.c (.bool false)), none⟩ ::
    []))
  (.ret)
def c10_2 : HCode :=
  .seq (.region none (⟨some 6, .mv 0 (.c (.bool false)), none⟩ ::
    []))
  (.ret)
def c10_3 : HCode :=
  .region none (⟨some 128, .mv 1 (.t 20), none⟩ ::
    ⟨some 129, .mv 1 (.t 18), none⟩ ::
    ⟨some 130, .mv 0 (.t 21), none⟩ ::
    ⟨some 131, .iaddr 1 (.t 129) (.t 130), none⟩ ::
    ⟨some 132, .load false 1 (.t 131), none⟩ ::
    ⟨some 133, .bin .geq (.t 132) (.c (.int .i64 0)), none⟩ ::
    ⟨some 134, .bsl 1 1 [(.t 133)], none⟩ ::
    ⟨some 135, .app true 1 1 (.t 128) (.t 134), none⟩ ::
    ⟨some 20, .mv 1 (.t 135), none⟩ ::
    [])
def c10_4 : HCode :=
  .region none (⟨some 119, .mv 0 (.t 21), none⟩ ::
    ⟨some 120, .bin .add (.t 119) (.c (.int .i64 1)), none⟩ ::
    ⟨some 21, .mv 0 (.t 120), none⟩ ::
    [])
def c10_5 : HCode :=
  .seq (.block 1 (.seq (.region none (⟨some 121, .mv 0 (.t 19), none⟩ ::
      ⟨some 122, .mv 1 (.t 9), none⟩ ::
      ⟨some 123, .mv 0 (.t 21), none⟩ ::
      ⟨some 124, .iaddr 1 (.t 122) (.t 123), none⟩ ::
      ⟨some 125, .load false 1 (.t 124), none⟩ ::
      ⟨some 126, .mm true (.c (.int .i64 0)) (.t 125), none⟩ ::
      ⟨some 127, .bin .add (.t 121) (.t 126), none⟩ ::
      ⟨some 19, .mv 0 (.t 127), none⟩ ::
      []))
    (c10_3)))
  (c10_4)
def c10_6 : HCode :=
  .seq (.seq (.region none (⟨some 115, .mv 0 (.t 21), none⟩ ::
    ⟨some 116, .mv 1 (.t 7), none⟩ ::
    ⟨some 117, .len (.t 116), none⟩ ::
    ⟨some 118, .bin .lss (.t 115) (.t 117), none⟩ ::
    []))
  (.cond (.t 118) (.skip) (.exit 0)))
  (c10_5)
def c10_7 : HCode :=
  .seq (.region none (⟨some 136, .mv 0 (.t 14), none⟩ ::
    ⟨some 137, .mv 3 (.t 15), none⟩ ::
    ⟨some 138, .mv 1 (.t 16), none⟩ ::
    ⟨some 139, .call 35 [(.t 136), (.t 137), (.t 138)], none⟩ ::
    ⟨some 140, .mv 0 (.t 19), none⟩ ::
    ⟨some 141, .mv 0 (.t 11), none⟩ ::
    ⟨some 142, .bin .sub (.t 140) (.t 141), none⟩ ::
    ⟨some 143, .bin .eql (.t 139) (.t 142), none⟩ ::
    ⟨some 144, .mv 0 (.t 143), none⟩ ::
    ⟨some 145, .mv 1 (.t 7), some (8, true)⟩ ::
    ⟨some 146, .mv 1 (.t 20), some (8, true)⟩ ::
    ⟨some 147, .call 15 [(.t 145), (.t 146)], some (8, true)⟩ ::
    ⟨some 148, .pick (.t 144) (.t 147) (.c (.bool false)), none⟩ ::
    ⟨some 149, .mv 0 (.t 148), none⟩ ::
    ⟨some 150, .mv 1 (.t 7), some (13, true)⟩ ::
    ⟨some 151, .mv 1 (.t 20), some (13, true)⟩ ::
    ⟨some 152, .call 18 [(.t 150), (.t 151)], some (13, true)⟩ ::
    ⟨some 153, .mv 1 (.t 20), some (13, true)⟩ ::
    ⟨some 154, .call 17 [(.t 152), (.t 153)], some (13, true)⟩ ::
    ⟨some 155, .pick (.t 149) (.t 154) (.c (.bool false)), none⟩ ::
    ⟨some 156, .mv 0 (.t 155), none⟩ ::
    ⟨some 157, .call 21 [], some (20, true)⟩ ::
    ⟨some 158, .pick (.t 156) (.t 157) (.c (.bool false)), none⟩ ::
    ⟨some 6, .mv 0 (.t 158), none⟩ ::
    []))
  (.ret)
def c10_8 : HCode :=
  .seq (.seq (.region none (⟨some 21, .mv 0 (.c (.int .i64 0)), none⟩ ::
    []))
  (.block 0 (.loop (c10_6))))
  (c10_7)
def c10_9 : HCode :=
  .seq (.region none (⟨some 20, .mv 1 (.c (.nils)), none⟩ ::
    []))
  (c10_8)
def c10_10 : HCode :=
  .seq (.region none (⟨some 19, .mv 0 (.c (.int .i64 0)), none⟩ ::
    []))
  (c10_9)
def c10_11 : HCode :=
  .seq (.seq (.region none (⟨some 76, .mv 0 (.t 17), none⟩ ::
    ⟨some 77, .bin .neq (.t 76) (.c (.int .i64 0)), none⟩ ::
    ⟨some 78, .mv 0 (.t 77), none⟩ ::
    ⟨some 79, .mv 1 (.t 16), some (2, false)⟩ ::
    ⟨some 80, .len (.t 79), some (2, false)⟩ ::
    ⟨some 81, .mv 0 (.t 14), some (2, false)⟩ ::
    ⟨some 82, .bin .neq (.t 80) (.t 81), some (2, false)⟩ ::
    ⟨some 83, .pick (.t 78) (.c (.bool true)) (.t 82), none⟩ ::
    ⟨some 84, .mv 0 (.t 83), none⟩ ::
    ⟨some 85, .mv 1 (.t 18), some (8, false)⟩ ::
    ⟨some 86, .len (.t 85), some (8, false)⟩ ::
    ⟨some 87, .mv 1 (.t 7), some (8, false)⟩ ::
    ⟨some 88, .len (.t 87), some (8, false)⟩ ::
    ⟨some 89, .bin .neq (.t 86) (.t 88), some (8, false)⟩ ::
    ⟨some 90, .pick (.t 84) (.c (.bool true)) (.t 89), none⟩ ::
    ⟨some 91, .mv 0 (.t 90), none⟩ ::
    ⟨some 92, .mv 1 (.t 16), some (15, false)⟩ ::
    ⟨some 93, .mv 0 (.t 14), some (15, false)⟩ ::
    ⟨some 94, .bin .sub (.t 93) (.c (.int .i64 2)), some (15, false)⟩ ::
    ⟨some 95, .iaddr 1 (.t 92) (.t 94), some (15, false)⟩ ::
    ⟨some 96, .load false 1 (.t 95), some (15, false)⟩ ::
    ⟨some 97, .un .not (.t 96), some (15, false)⟩ ::
    ⟨some 98, .pick (.t 91) (.c (.bool true)) (.t 97), none⟩ ::
    ⟨some 99, .mv 0 (.t 98), none⟩ ::
    ⟨some 100, .mv 1 (.t 16), some (23, false)⟩ ::
    ⟨some 101, .mv 0 (.t 14), some (23, false)⟩ ::
    ⟨some 102, .bin .sub (.t 101) (.c (.int .i64 1)), some (23, false)⟩ ::
    ⟨some 103, .iaddr 1 (.t 100) (.t 102), some (23, false)⟩ ::
    ⟨some 104, .load false 1 (.t 103), some (23, false)⟩ ::
    ⟨some 105, .pick (.t 99) (.c (.bool true)) (.t 104), none⟩ ::
    ⟨some 106, .mv 0 (.t 105), none⟩ ::
    ⟨some 107, .mv 1 (.t 16), some (30, false)⟩ ::
    ⟨some 108, .mv 0 (.t 14), some (30, false)⟩ ::
    ⟨some 109, .bin .sub (.t 108) (.c (.int .i64 2)), some (30, false)⟩ ::
    ⟨some 110, .slc 1 (.t 107) none (some (.t 109)), some (30, false)⟩ ::
    ⟨some 111, .mv 1 (.t 10), some (30, false)⟩ ::
    ⟨some 112, .call 17 [(.t 110), (.t 111)], some (30, false)⟩ ::
    ⟨some 113, .un .not (.t 112), some (30, false)⟩ ::
    ⟨some 114, .pick (.t 106) (.c (.bool true)) (.t 113), none⟩ ::
    []))
  (.cond (.t 114) (c10_2) (.skip)))
  (c10_10)
def c10_12 : HCode :=
  .seq (.region none (⟨some 73, .mv 1 (.t 7), none⟩ ::
    ⟨some 74, .mv 1 (.t 8), none⟩ ::
    ⟨some 75, .call 34 [(.t 73), (.t 74)], none⟩ ::
    ⟨some 18, .mv 1 (.t 75), none⟩ ::
    []))
  (c10_11)
def c10_13 : HCode :=
  .seq (.region none (⟨some 64, .mv 0 (.t 14), none⟩ ::
    ⟨some 65, .mv 3 (.t 15), none⟩ ::
    ⟨some 66, .mv 0 (.t 14), none⟩ ::
    ⟨some 67, .bin .sub (.t 66) (.c (.int .i64 2)), none⟩ ::
    ⟨some 68, .mv 0 (.t 14), none⟩ ::
    ⟨some 69, .bin .sub (.t 68) (.c (.int .i64 1)), none⟩ ::
    ⟨some 70, .call 33 [(.t 64), (.t 65), (.t 67), (.t 69)], none⟩ ::
    ⟨some 63, .mv 0 (.t 70), none⟩ ::
    ⟨some 71, .ext (.t 63) 0, none⟩ ::
    ⟨some 72, .ext (.t 63) 1, none⟩ ::
    ⟨some 16, .mv 1 (.t 71), none⟩ ::
    ⟨some 17, .mv 0 (.t 72), none⟩ ::
    []))
  (c10_12)
def c10_14 : HCode :=
  .seq (.seq (.region none (⟨some 47, .mv 0 (.t 13), none⟩ ::
    ⟨some 48, .bin .neq (.t 47) (.c (.int .i64 0)), none⟩ ::
    ⟨some 49, .mv 0 (.t 48), none⟩ ::
    ⟨some 50, .mv 0 (.t 14), some (2, false)⟩ ::
    ⟨some 51, .mv 1 (.t 7), some (2, false)⟩ ::
    ⟨some 52, .len (.t 51), some (2, false)⟩ ::
    ⟨some 53, .bin .add (.t 52) (.c (.int .i64 2)), some (2, false)⟩ ::
    ⟨some 54, .bin .neq (.t 50) (.t 53), some (2, false)⟩ ::
    ⟨some 55, .pick (.t 49) (.c (.bool true)) (.t 54), none⟩ ::
    ⟨some 56, .mv 0 (.t 55), none⟩ ::
    ⟨some 57, .mv 1 (.t 10), some (9, false)⟩ ::
    ⟨some 58, .len (.t 57), some (9, false)⟩ ::
    ⟨some 59, .mv 1 (.t 7), some (9, false)⟩ ::
    ⟨some 60, .len (.t 59), some (9, false)⟩ ::
    ⟨some 61, .bin .neq (.t 58) (.t 60), some (9, false)⟩ ::
    ⟨some 62, .pick (.t 56) (.c (.bool true)) (.t 61), none⟩ ::
    []))
  (.cond (.t 62) (c10_1) (.skip)))
  (c10_13)
def c10_15 : HCode :=
  .seq (.region none (⟨some 42, .mv 1 (.t 9), none⟩ ::
    ⟨some 43, .mv 1 (.t 7), none⟩ ::
    ⟨some 44, .call 22 [(.t 42), (.t 43)], none⟩ ::
    ⟨some 41, .mv 0 (.t 44), none⟩ ::
    ⟨some 45, .ext (.t 41) 0, none⟩ ::
    ⟨some 46, .ext (.t 41) 1, none⟩ ::
    ⟨some 14, .mv 0 (.t 45), none⟩ ::
    ⟨some 15, .mv 3 (.t 46), none⟩ ::
    []))
  (c10_14)
def c10_16 : HCode :=
  .seq (.region none (⟨some 34, .mv 1 (.t 9), none⟩ ::
    ⟨some 35, .mv 1 (.t 7), none⟩ ::
    ⟨some 36, .call 25 [(.t 34), (.t 35)], none⟩ ::
    ⟨some 33, .mv 0 (.t 36), none⟩ ::
    ⟨some 37, .ext (.t 33) 0, none⟩ ::
    ⟨some 38, .ext (.t 33) 1, none⟩ ::
    ⟨some 39, .ext (.t 33) 2, none⟩ ::
    ⟨some 40, .ext (.t 33) 3, none⟩ ::
    ⟨some 10, .mv 1 (.t 37), none⟩ ::
    ⟨some 11, .mv 0 (.t 38), none⟩ ::
    ⟨some 12, .mv 1 (.t 39), none⟩ ::
    ⟨some 13, .mv 0 (.t 40), none⟩ ::
    []))
  (c10_15)
def c10_17 : HCode :=
  .seq (.region none (⟨some 29, .mv 1 (.t 1), none⟩ ::
    ⟨some 30, .mv 1 (.t 7), none⟩ ::
    ⟨some 31, .len (.t 30), none⟩ ::
    ⟨some 32, .call 20 [(.t 29), (.t 31)], none⟩ ::
    ⟨some 9, .mv 1 (.t 32), none⟩ ::
    []))
  (c10_16)
def c10_18 : HCode :=
  .seq (.region none (⟨some 23, .mv 1 (.t 0), none⟩ ::
    ⟨some 24, .mv 0 (.t 2), none⟩ ::
    ⟨some 25, .call 30 [(.t 24), (.c (.int .i64 31))], none⟩ ::
    ⟨some 26, .call 31 [(.t 23), (.t 25)], none⟩ ::
    ⟨some 22, .mv 0 (.t 26), none⟩ ::
    ⟨some 27, .ext (.t 22) 0, none⟩ ::
    ⟨some 28, .ext (.t 22) 1, none⟩ ::
    ⟨some 7, .mv 1 (.t 27), none⟩ ::
    ⟨some 8, .mv 1 (.t 28), none⟩ ::
    []))
  (c10_17)
def c10 : HCode :=
  .seq (.region none (⟨some 6, .mv 0 (.c (.bool false)), none⟩ ::
    []))
  (c10_18)
theorem fc10 : funCode Try.prog 10 = some (c10, [6], 159) := by kernel_rfl

end Go.Proofs.Ytkhbiknjkffpjaa
