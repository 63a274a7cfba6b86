/-
  OWN WORK, written by my own program. The law's function in the value language, checked against the translation.
-/
import Derived.Test.YtbddkmhpfbmcmaaHl4
import Derived.Test.YtbddkmhpfbmcmaaProg
namespace Go.Proofs.Ytbddkmhpfbmcmaa
open Go.HL
set_option maxRecDepth 100000
set_option linter.unusedVariables false
def c10_1 : HCode :=
  .region (some [0, 0, 0, 6, 14, 30, 0, 0, 0, 384, 896, 1920, 4032, 8128, 0, 0, 49152, 114688, 245760, 524224, 1048575, 2097151]) (⟨some 75, .mv 1 (.t 11), none⟩ ::
    ⟨some 76, .mv 3 (.t 8), none⟩ ::
    ⟨some 77, .mv 0 (.t 12), none⟩ ::
    ⟨some 78, .iaddr 3 (.t 76) (.t 77), none⟩ ::
    ⟨some 79, .faddr 0 (.t 78), none⟩ ::
    ⟨some 80, .load false 1 (.t 79), none⟩ ::
    ⟨some 81, .mv 1 (.t 11), none⟩ ::
    ⟨some 82, .mv 3 (.t 8), none⟩ ::
    ⟨some 83, .mv 0 (.t 12), none⟩ ::
    ⟨some 84, .iaddr 3 (.t 82) (.t 83), none⟩ ::
    ⟨some 85, .faddr 0 (.t 84), none⟩ ::
    ⟨some 86, .load false 1 (.t 85), none⟩ ::
    ⟨some 87, .iaddr 1 (.t 81) (.t 86), none⟩ ::
    ⟨some 88, .load false 1 (.t 87), none⟩ ::
    ⟨some 89, .mv 3 (.t 8), none⟩ ::
    ⟨some 90, .mv 0 (.t 12), none⟩ ::
    ⟨some 91, .iaddr 3 (.t 89) (.t 90), none⟩ ::
    ⟨some 92, .faddr 1 (.t 91), none⟩ ::
    ⟨some 93, .load false 1 (.t 92), none⟩ ::
    ⟨some 94, .call 28 [(.t 88), (.t 93)], none⟩ ::
    ⟨some 95, .iaddr 1 (.t 75) (.t 80), none⟩ ::
    ⟨none, .store false 1 (.t 95) (.t 94), none⟩ ::
    [])
def c10_2 : HCode :=
  .seq (.region none (⟨some 69, .mv 3 (.t 8), none⟩ ::
    ⟨some 70, .mv 0 (.t 12), none⟩ ::
    ⟨some 71, .iaddr 3 (.t 69) (.t 70), none⟩ ::
    ⟨some 72, .faddr 2 (.t 71), none⟩ ::
    ⟨some 73, .load false 1 (.t 72), none⟩ ::
    ⟨some 74, .bin .gtr (.t 73) (.c (.int .i64 0)), none⟩ ::
    []))
  (.cond (.t 74) (c10_1) (.skip))
def c10_3 : HCode :=
  .region none (⟨some 37, .mv 0 (.t 12), none⟩ ::
    ⟨some 38, .bin .add (.t 37) (.c (.int .i64 1)), none⟩ ::
    ⟨some 12, .mv 0 (.t 38), none⟩ ::
    [])
def c10_4 : HCode :=
  .seq (.block 1 (.seq (.region (some [0, 0, 0, 0, 0, 0, 48, 112, 240, 0, 0, 1536, 3584, 7680, 16368, 0, 0, 98304, 229376, 491520, 0, 0, 3145728, 7340032, 15728640, 33521664, 33554419, 100663283, 234881011, 536870911, 1073741823, 2147483647]) (⟨some 39, .mv 3 (.t 8), none⟩ ::
      ⟨some 40, .mv 0 (.t 12), none⟩ ::
      ⟨some 41, .mv 3 (.t 8), none⟩ ::
      ⟨some 42, .mv 0 (.t 12), none⟩ ::
      ⟨some 43, .mv 3 (.t 8), none⟩ ::
      ⟨some 44, .mv 0 (.t 12), none⟩ ::
      ⟨some 45, .iaddr 3 (.t 43) (.t 44), none⟩ ::
      ⟨some 46, .faddr 0 (.t 45), none⟩ ::
      ⟨some 47, .load false 1 (.t 46), none⟩ ::
      ⟨some 48, .mv 3 (.t 8), none⟩ ::
      ⟨some 49, .mv 0 (.t 12), none⟩ ::
      ⟨some 50, .iaddr 3 (.t 48) (.t 49), none⟩ ::
      ⟨some 51, .faddr 1 (.t 50), none⟩ ::
      ⟨some 52, .load false 1 (.t 51), none⟩ ::
      ⟨some 53, .mm false (.t 47) (.t 52), none⟩ ::
      ⟨some 54, .mv 3 (.t 8), none⟩ ::
      ⟨some 55, .mv 0 (.t 12), none⟩ ::
      ⟨some 56, .iaddr 3 (.t 54) (.t 55), none⟩ ::
      ⟨some 57, .faddr 0 (.t 56), none⟩ ::
      ⟨some 58, .load false 1 (.t 57), none⟩ ::
      ⟨some 59, .mv 3 (.t 8), none⟩ ::
      ⟨some 60, .mv 0 (.t 12), none⟩ ::
      ⟨some 61, .iaddr 3 (.t 59) (.t 60), none⟩ ::
      ⟨some 62, .faddr 1 (.t 61), none⟩ ::
      ⟨some 63, .load false 1 (.t 62), none⟩ ::
      ⟨some 64, .mm true (.t 58) (.t 63), none⟩ ::
      ⟨some 65, .iaddr 3 (.t 39) (.t 40), none⟩ ::
      ⟨some 66, .faddr 0 (.t 65), none⟩ ::
      ⟨none, .store true 1 (.t 66) (.t 53), none⟩ ::
      ⟨some 67, .iaddr 3 (.t 41) (.t 42), none⟩ ::
      ⟨some 68, .faddr 1 (.t 67), none⟩ ::
      ⟨none, .store true 1 (.t 68) (.t 64), none⟩ ::
      []))
    (c10_2)))
  (c10_3)
def c10_5 : HCode :=
  .seq (.seq (.region none (⟨some 33, .mv 0 (.t 12), none⟩ ::
    ⟨some 34, .mv 3 (.t 8), none⟩ ::
    ⟨some 35, .len (.t 34), none⟩ ::
    ⟨some 36, .bin .lss (.t 33) (.t 35), none⟩ ::
    []))
  (.cond (.t 36) (.skip) (.exit 0)))
  (c10_4)
def c10_6 : HCode :=
  .seq (.region none (⟨some 6, .mv 0 (.c (.bool false)), none⟩ ::
    []))
  (.ret)
def c10_7 : HCode :=
  .seq (.region none (⟨some 142, .mv 1 (.t 18), none⟩ ::
    ⟨some 143, .len (.t 142), none⟩ ::
    ⟨some 144, .bin .eql (.t 143) (.c (.int .i64 0)), none⟩ ::
    ⟨some 145, .mv 0 (.t 144), none⟩ ::
    ⟨some 146, .mv 1 (.t 18), some (3, false)⟩ ::
    ⟨some 147, .mv 1 (.t 18), some (3, false)⟩ ::
    ⟨some 148, .len (.t 147), some (3, false)⟩ ::
    ⟨some 149, .bin .sub (.t 148) (.c (.int .i64 1)), some (3, false)⟩ ::
    ⟨some 150, .iaddr 1 (.t 146) (.t 149), some (3, false)⟩ ::
    ⟨some 151, .load false 1 (.t 150), some (3, false)⟩ ::
    ⟨some 152, .mv 0 (.t 7), some (3, false)⟩ ::
    ⟨some 153, .bin .sub (.t 152) (.c (.int .i64 1)), some (3, false)⟩ ::
    ⟨some 154, .bin .eql (.t 151) (.t 153), some (3, false)⟩ ::
    ⟨some 155, .pick (.t 145) (.c (.bool true)) (.t 154), none⟩ ::
    ⟨some 156, .mv 0 (.t 155), none⟩ ::
    ⟨some 157, .call 19 [], some (14, true)⟩ ::
    ⟨some 158, .pick (.t 156) (.t 157) (.c (.bool false)), none⟩ ::
    ⟨some 6, .mv 0 (.t 158), none⟩ ::
    []))
  (.ret)
def c10_8 : HCode :=
  .seq (.seq (.region none (⟨some 117, .mv 0 (.t 16), none⟩ ::
    ⟨some 118, .bin .neq (.t 117) (.c (.int .i64 0)), none⟩ ::
    ⟨some 119, .mv 0 (.t 118), none⟩ ::
    ⟨some 120, .mv 1 (.t 17), some (2, false)⟩ ::
    ⟨some 121, .len (.t 120), some (2, false)⟩ ::
    ⟨some 122, .mv 0 (.t 7), some (2, false)⟩ ::
    ⟨some 123, .bin .neq (.t 121) (.t 122), some (2, false)⟩ ::
    ⟨some 124, .pick (.t 119) (.c (.bool true)) (.t 123), none⟩ ::
    ⟨some 125, .mv 0 (.t 124), none⟩ ::
    ⟨some 126, .mv 0 (.t 14), some (8, false)⟩ ::
    ⟨some 127, .bin .gtr (.t 126) (.c (.int .i64 0)), some (8, false)⟩ ::
    ⟨some 128, .mv 1 (.t 17), some (8, false)⟩ ::
    ⟨some 129, .iaddr 1 (.t 128) (.c (.int .i64 0)), some (8, false)⟩ ::
    ⟨some 130, .load false 1 (.t 129), some (8, false)⟩ ::
    ⟨some 131, .bin .lss (.t 130) (.c (.int .i64 0)), some (8, false)⟩ ::
    ⟨some 132, .beq true (.t 127) (.t 131), some (8, false)⟩ ::
    ⟨some 133, .pick (.t 125) (.c (.bool true)) (.t 132), none⟩ ::
    ⟨some 134, .mv 0 (.t 133), none⟩ ::
    ⟨some 135, .mv 0 (.t 14), some (17, false)⟩ ::
    ⟨some 136, .bin .gtr (.t 135) (.c (.int .i64 0)), some (17, false)⟩ ::
    ⟨some 137, .mv 1 (.t 18), some (17, false)⟩ ::
    ⟨some 138, .len (.t 137), some (17, false)⟩ ::
    ⟨some 139, .bin .gtr (.t 138) (.c (.int .i64 0)), some (17, false)⟩ ::
    ⟨some 140, .beq true (.t 136) (.t 139), some (17, false)⟩ ::
    ⟨some 141, .pick (.t 134) (.c (.bool true)) (.t 140), none⟩ ::
    []))
  (.cond (.t 141) (c10_6) (.skip)))
  (c10_7)
def c10_9 : HCode :=
  .seq (.region none (⟨some 114, .mv 1 (.t 11), none⟩ ::
    ⟨some 115, .mv 1 (.t 13), none⟩ ::
    ⟨some 116, .call 30 [(.t 114), (.t 115), (.c (.int .i64 0))], none⟩ ::
    ⟨some 18, .mv 1 (.t 116), none⟩ ::
    []))
  (c10_8)
def c10_10 : HCode :=
  .seq (.region none (⟨some 111, .mv 1 (.t 11), none⟩ ::
    ⟨some 112, .mv 1 (.t 13), none⟩ ::
    ⟨some 113, .call 29 [(.t 111), (.t 112)], none⟩ ::
    ⟨some 17, .mv 1 (.t 113), none⟩ ::
    []))
  (c10_9)
def c10_11 : HCode :=
  .seq (.region none (⟨some 103, .mv 0 (.t 7), none⟩ ::
    ⟨some 104, .mv 3 (.t 8), none⟩ ::
    ⟨some 105, .mv 0 (.t 7), none⟩ ::
    ⟨some 106, .bin .sub (.t 105) (.c (.int .i64 1)), none⟩ ::
    ⟨some 107, .call 13 [(.t 103), (.t 104), (.c (.int .i64 0)), (.t 106)], none⟩ ::
    ⟨some 102, .mv 0 (.t 107), none⟩ ::
    ⟨some 108, .ext (.t 102) 0, none⟩ ::
    ⟨some 109, .ext (.t 102) 1, none⟩ ::
    ⟨some 110, .ext (.t 102) 2, none⟩ ::
    ⟨some 14, .mv 0 (.t 108), none⟩ ::
    ⟨some 15, .mv 1 (.t 109), none⟩ ::
    ⟨some 16, .mv 0 (.t 110), none⟩ ::
    []))
  (c10_10)
def c10_12 : HCode :=
  .seq (.region none (⟨some 98, .mv 1 (.t 13), none⟩ ::
    ⟨some 99, .mv 0 (.t 7), none⟩ ::
    ⟨some 100, .bin .sub (.t 99) (.c (.int .i64 1)), none⟩ ::
    ⟨some 101, .iaddr 1 (.t 98) (.t 100), none⟩ ::
    ⟨none, .store true 1 (.t 101) (.c (.bool true)), none⟩ ::
    []))
  (c10_11)
def c10_13 : HCode :=
  .seq (.region none (⟨some 96, .mv 0 (.t 7), none⟩ ::
    ⟨some 97, .mksl 1 1 [.bool false] (.t 96), none⟩ ::
    ⟨some 13, .mv 1 (.t 97), none⟩ ::
    []))
  (c10_12)
def c10_14 : HCode :=
  .seq (.seq (.region none (⟨some 12, .mv 0 (.c (.int .i64 0)), none⟩ ::
    []))
  (.block 0 (.loop (c10_5))))
  (c10_13)
def c10_15 : HCode :=
  .seq (.region none (⟨some 31, .mv 0 (.t 7), none⟩ ::
    ⟨some 32, .mksl 1 24 [.osl 1 0 []] (.t 31), none⟩ ::
    ⟨some 11, .mv 1 (.t 32), none⟩ ::
    []))
  (c10_14)
def c10_16 : HCode :=
  .seq (.region none (⟨some 20, .mv 1 (.t 0), none⟩ ::
    ⟨some 21, .mv 0 (.t 1), none⟩ ::
    ⟨some 22, .call 20 [(.t 21), (.c (.int .i64 40))], none⟩ ::
    ⟨some 23, .bin .add (.c (.int .i64 2)) (.t 22), none⟩ ::
    ⟨some 24, .mv 0 (.t 2), none⟩ ::
    ⟨some 25, .call 20 [(.t 24), (.c (.int .i64 60))], none⟩ ::
    ⟨some 26, .call 26 [(.t 20), (.t 23), (.t 25)], none⟩ ::
    ⟨some 19, .mv 0 (.t 26), none⟩ ::
    ⟨some 27, .ext (.t 19) 0, none⟩ ::
    ⟨some 28, .ext (.t 19) 1, none⟩ ::
    ⟨some 29, .ext (.t 19) 2, none⟩ ::
    ⟨some 30, .ext (.t 19) 3, none⟩ ::
    ⟨some 7, .mv 0 (.t 27), none⟩ ::
    ⟨some 8, .mv 3 (.t 28), none⟩ ::
    ⟨some 9, .mv 0 (.t 29), none⟩ ::
    ⟨some 10, .mv 0 (.t 30), none⟩ ::
    []))
  (c10_15)
def c10 : HCode :=
  .seq (.region none (⟨some 6, .mv 0 (.c (.bool false)), none⟩ ::
    []))
  (c10_16)
theorem fc10 : funCode Try.prog 10 = some (c10, [6], 159) := by kernel_rfl

end Go.Proofs.Ytbddkmhpfbmcmaa
