/-
  OWN WORK, written by my own program. The functions that the claim reaches, in the value language; each is checked against the translation.
-/
import Derived.Test.YtjlidhijnohkbaaHl4
import Derived.Test.YtjlidhijnohkbaaProg
namespace Go.Proofs.Ytjlidhijnohkbaa
open Go.HL
set_option maxRecDepth 100000
set_option linter.unusedVariables false
def c2 : HCode :=
  .region none (⟨some 0, .call 1 [], none⟩ ::
    [])
def c12_1 : HCode :=
  .region none (⟨some 46, .mv 1 (.t 9), none⟩ ::
    ⟨some 47, .mv 0 (.t 12), none⟩ ::
    ⟨some 48, .bin .quo (.t 47) (.c (.int .i64 7)), none⟩ ::
    ⟨some 49, .mv 0 (.t 8), none⟩ ::
    ⟨some 50, .call 13 [(.t 48), (.t 49)], none⟩ ::
    ⟨some 51, .call 30 [(.t 46), (.t 50)], none⟩ ::
    ⟨some 9, .mv 1 (.t 51), none⟩ ::
    [])
def c12_2 : HCode :=
  .region none (⟨some 52, .mv 1 (.t 9), none⟩ ::
    ⟨some 53, .mv 0 (.t 12), none⟩ ::
    ⟨some 54, .bin .quo (.t 53) (.c (.int .i64 7)), none⟩ ::
    ⟨some 55, .mv 0 (.t 1), none⟩ ::
    ⟨some 56, .mm false (.t 55) (.c (.int .i64 256)), none⟩ ::
    ⟨some 57, .call 13 [(.t 54), (.t 56)], none⟩ ::
    ⟨some 58, .call 30 [(.t 52), (.t 57)], none⟩ ::
    ⟨some 9, .mv 1 (.t 58), none⟩ ::
    [])
def c12_3 : HCode :=
  .seq (.region none (⟨some 39, .mv 0 (.t 8), none⟩ ::
    ⟨some 40, .bin .gtr (.t 39) (.c (.int .i64 0)), none⟩ ::
    ⟨some 41, .mv 0 (.t 40), none⟩ ::
    ⟨some 42, .mv 0 (.t 12), some (2, true)⟩ ::
    ⟨some 43, .call 13 [(.t 42), (.c (.int .i64 7))], some (2, true)⟩ ::
    ⟨some 44, .bin .lss (.t 43) (.c (.int .i64 6)), some (2, true)⟩ ::
    ⟨some 45, .pick (.t 41) (.t 44) (.c (.bool false)), none⟩ ::
    []))
  (.cond (.t 45) (c12_1) (c12_2))
def c12_4 : HCode :=
  .region none (⟨some 30, .mv 0 (.t 11), none⟩ ::
    ⟨some 31, .bin .add (.t 30) (.c (.int .i64 1)), none⟩ ::
    ⟨some 11, .mv 0 (.t 31), none⟩ ::
    [])
def c12_5 : HCode :=
  .seq (.block 3 (.seq (.region none (⟨some 32, .mv 1 (.t 0), none⟩ ::
      ⟨some 33, .mv 0 (.t 8), none⟩ ::
      ⟨some 34, .bin .mul (.c (.int .i64 5)) (.t 33), none⟩ ::
      ⟨some 35, .mv 0 (.t 11), none⟩ ::
      ⟨some 36, .bin .add (.t 34) (.t 35), none⟩ ::
      ⟨some 37, .bin .add (.t 36) (.c (.int .i64 1)), none⟩ ::
      ⟨some 38, .call 32 [(.t 32), (.t 37)], none⟩ ::
      ⟨some 12, .mv 0 (.t 38), none⟩ ::
      []))
    (c12_3)))
  (c12_4)
def c12_6 : HCode :=
  .seq (.seq (.region none (⟨some 27, .mv 0 (.t 11), none⟩ ::
    ⟨some 28, .mv 0 (.t 10), none⟩ ::
    ⟨some 29, .bin .lss (.t 27) (.t 28), none⟩ ::
    []))
  (.cond (.t 29) (.skip) (.exit 2)))
  (c12_5)
def c12_7 : HCode :=
  .region none (⟨some 63, .mv 1 (.t 7), none⟩ ::
    ⟨some 64, .mv 1 (.t 0), none⟩ ::
    ⟨some 65, .mv 0 (.t 8), none⟩ ::
    ⟨some 66, .bin .mul (.c (.int .i64 5)) (.t 65), none⟩ ::
    ⟨some 67, .bin .add (.t 66) (.c (.int .i64 4)), none⟩ ::
    ⟨some 68, .call 32 [(.t 64), (.t 67)], none⟩ ::
    ⟨some 69, .call 13 [(.t 68), (.c (.int .i64 11))], none⟩ ::
    ⟨some 70, .bin .eql (.t 69) (.c (.int .i64 0)), none⟩ ::
    ⟨some 71, .bsl 1 1 [(.t 70)], none⟩ ::
    ⟨some 72, .app true 1 1 (.t 63) (.t 71), none⟩ ::
    ⟨some 7, .mv 1 (.t 72), none⟩ ::
    [])
def c12_8 : HCode :=
  .seq (.region none (⟨some 59, .mv 1 (.t 6), none⟩ ::
    ⟨some 60, .mv 1 (.t 9), none⟩ ::
    ⟨some 61, .bsl 1 1 [(.t 60)], none⟩ ::
    ⟨some 62, .app false 1 24 (.t 59) (.t 61), none⟩ ::
    ⟨some 6, .mv 1 (.t 62), none⟩ ::
    []))
  (c12_7)
def c12_9 : HCode :=
  .seq (.seq (.region none (⟨some 11, .mv 0 (.c (.int .i64 0)), none⟩ ::
    []))
  (.block 2 (.loop (c12_6))))
  (c12_8)
def c12_10 : HCode :=
  .seq (.region none (⟨some 22, .mv 1 (.t 0), none⟩ ::
    ⟨some 23, .mv 0 (.t 8), none⟩ ::
    ⟨some 24, .bin .mul (.c (.int .i64 5)) (.t 23), none⟩ ::
    ⟨some 25, .call 32 [(.t 22), (.t 24)], none⟩ ::
    ⟨some 26, .call 13 [(.t 25), (.c (.int .i64 4))], none⟩ ::
    ⟨some 10, .mv 0 (.t 26), none⟩ ::
    []))
  (c12_9)
def c12_11 : HCode :=
  .region none (⟨some 20, .mv 0 (.t 8), none⟩ ::
    ⟨some 21, .bin .add (.t 20) (.c (.int .i64 1)), none⟩ ::
    ⟨some 8, .mv 0 (.t 21), none⟩ ::
    [])
def c12_12 : HCode :=
  .seq (.block 1 (.seq (.region none (⟨some 9, .mv 1 (.c (.nils)), none⟩ ::
      []))
    (c12_10)))
  (c12_11)
def c12_13 : HCode :=
  .seq (.seq (.region none (⟨some 13, .mv 0 (.t 8), none⟩ ::
    ⟨some 14, .mv 0 (.t 1), none⟩ ::
    ⟨some 15, .bin .lss (.t 13) (.t 14), none⟩ ::
    ⟨some 16, .mv 0 (.t 15), none⟩ ::
    ⟨some 17, .mv 0 (.t 8), some (3, true)⟩ ::
    ⟨some 18, .bin .lss (.t 17) (.c (.int .i64 256)), some (3, true)⟩ ::
    ⟨some 19, .pick (.t 16) (.t 18) (.c (.bool false)), none⟩ ::
    []))
  (.cond (.t 19) (.skip) (.exit 0)))
  (c12_12)
def c12_14 : HCode :=
  .seq (.region none (⟨some 73, .mv 1 (.t 6), none⟩ ::
    ⟨some 74, .mv 1 (.t 7), none⟩ ::
    ⟨some 4, .mv 1 (.t 73), none⟩ ::
    ⟨some 5, .mv 1 (.t 74), none⟩ ::
    []))
  (.ret)
def c12_15 : HCode :=
  .seq (.seq (.region none (⟨some 8, .mv 0 (.c (.int .i64 0)), none⟩ ::
    []))
  (.block 0 (.loop (c12_13))))
  (c12_14)
def c12_16 : HCode :=
  .seq (.region none (⟨some 7, .mv 1 (.c (.nils)), none⟩ ::
    []))
  (c12_15)
def c12_17 : HCode :=
  .seq (.region none (⟨some 6, .mv 1 (.c (.nils)), none⟩ ::
    []))
  (c12_16)
def c12 : HCode :=
  .seq (.region none (⟨some 4, .mv 1 (.c (.nils)), none⟩ ::
    ⟨some 5, .mv 1 (.c (.nils)), none⟩ ::
    []))
  (c12_17)
theorem fc12 : funCode Try.prog 12 = some (c12, [4, 5], 75) := by kernel_rfl

def c13_1 : HCode :=
  .seq (.region none (⟨some 4, .mv 0 (.c (.int .i64 0)), none⟩ ::
    []))
  (.ret)
def c13_2 : HCode :=
  .seq (.region none (⟨some 7, .mv 0 (.t 0), none⟩ ::
    ⟨some 8, .mv 0 (.t 1), none⟩ ::
    ⟨some 9, .bin .rem (.t 7) (.t 8), none⟩ ::
    ⟨some 10, .mv 0 (.t 1), none⟩ ::
    ⟨some 11, .bin .add (.t 9) (.t 10), none⟩ ::
    ⟨some 12, .mv 0 (.t 1), none⟩ ::
    ⟨some 13, .bin .rem (.t 11) (.t 12), none⟩ ::
    ⟨some 4, .mv 0 (.t 13), none⟩ ::
    []))
  (.ret)
def c13_3 : HCode :=
  .seq (.seq (.region none (⟨some 5, .mv 0 (.t 1), none⟩ ::
    ⟨some 6, .bin .leq (.t 5) (.c (.int .i64 0)), none⟩ ::
    []))
  (.cond (.t 6) (c13_1) (.skip)))
  (c13_2)
def c13 : HCode :=
  .seq (.region none (⟨some 4, .mv 0 (.c (.int .i64 0)), none⟩ ::
    []))
  (c13_3)
theorem fc13 : funCode Try.prog 13 = some (c13, [4], 14) := by kernel_rfl

def c14_1 : HCode :=
  .seq (.region none (⟨some 4, .mv 0 (.c (.bool false)), none⟩ ::
    []))
  (.ret)
def c14_2 : HCode :=
  .seq (.region none (⟨some 4, .mv 0 (.c (.bool false)), none⟩ ::
    []))
  (.ret)
def c14_3 : HCode :=
  .seq (.region none (⟨some 32, .mv 0 (.t 8), none⟩ ::
    ⟨some 33, .bin .lss (.t 32) (.c (.int .i64 0)), none⟩ ::
    ⟨some 34, .mv 0 (.t 33), none⟩ ::
    ⟨some 35, .mv 0 (.t 8), some (2, false)⟩ ::
    ⟨some 36, .mv 1 (.t 0), some (2, false)⟩ ::
    ⟨some 37, .len (.t 36), some (2, false)⟩ ::
    ⟨some 38, .bin .geq (.t 35) (.t 37), some (2, false)⟩ ::
    ⟨some 39, .pick (.t 34) (.c (.bool true)) (.t 38), none⟩ ::
    ⟨some 40, .mv 0 (.t 39), none⟩ ::
    ⟨some 41, .mv 0 (.t 7), some (8, false)⟩ ::
    ⟨some 42, .bin .gtr (.t 41) (.c (.int .i64 0)), some (8, false)⟩ ::
    ⟨some 43, .mv 0 (.t 42), some (8, false)⟩ ::
    ⟨some 44, .mv 0 (.t 8), some (11, true)⟩ ::
    ⟨some 45, .mv 1 (.t 6), some (11, true)⟩ ::
    ⟨some 46, .mv 0 (.t 7), some (11, true)⟩ ::
    ⟨some 47, .bin .sub (.t 46) (.c (.int .i64 1)), some (11, true)⟩ ::
    ⟨some 48, .iaddr 1 (.t 45) (.t 47), some (11, true)⟩ ::
    ⟨some 49, .load false 1 (.t 48), some (11, true)⟩ ::
    ⟨some 50, .bin .leq (.t 44) (.t 49), some (11, true)⟩ ::
    ⟨some 51, .pick (.t 43) (.t 50) (.c (.bool false)), some (8, false)⟩ ::
    ⟨some 52, .pick (.t 40) (.c (.bool true)) (.t 51), none⟩ ::
    []))
  (.cond (.t 52) (c14_2) (.skip))
def c14_4 : HCode :=
  .region none (⟨some 53, .bin .add (.t 27) (.c (.int .i64 1)), none⟩ ::
    ⟨some 27, .mv 0 (.t 53), none⟩ ::
    [])
def c14_5 : HCode :=
  .seq (.block 3 (.seq (.region none (⟨some 29, .mv 0 (.t 27), none⟩ ::
      ⟨some 30, .iaddr 1 (.t 25) (.t 27), none⟩ ::
      ⟨some 31, .load false 1 (.t 30), none⟩ ::
      ⟨some 7, .mv 0 (.t 29), none⟩ ::
      ⟨some 8, .mv 0 (.t 31), none⟩ ::
      []))
    (c14_3)))
  (c14_4)
def c14_6 : HCode :=
  .seq (.region none (⟨some 28, .bin .lss (.t 27) (.t 26), none⟩ ::
    []))
  (.seq (.cond (.t 28) (.skip) (.exit 2))
  (c14_5))
def c14_7 : HCode :=
  .seq (.region none (⟨some 25, .mv 1 (.t 6), none⟩ ::
    ⟨some 26, .len (.t 25), none⟩ ::
    ⟨some 27, .mv 0 (.c (.int .i64 0)), none⟩ ::
    []))
  (.block 2 (.loop (c14_6)))
def c14_8 : HCode :=
  .region none (⟨some 54, .bin .add (.t 21) (.c (.int .i64 1)), none⟩ ::
    ⟨some 21, .mv 0 (.t 54), none⟩ ::
    [])
def c14_9 : HCode :=
  .seq (.block 1 (.seq (.region none (⟨some 23, .iaddr 1 (.t 19) (.t 21), none⟩ ::
      ⟨some 24, .load false 1 (.t 23), none⟩ ::
      ⟨some 6, .mv 1 (.t 24), none⟩ ::
      []))
    (c14_7)))
  (c14_8)
def c14_10 : HCode :=
  .seq (.region none (⟨some 22, .bin .lss (.t 21) (.t 20), none⟩ ::
    []))
  (.seq (.cond (.t 22) (.skip) (.exit 0))
  (c14_9))
def c14_11 : HCode :=
  .seq (.region none (⟨some 4, .mv 0 (.c (.bool true)), none⟩ ::
    []))
  (.ret)
def c14_12 : HCode :=
  .seq (.seq (.region none (⟨some 19, .mv 1 (.t 0), none⟩ ::
    ⟨some 20, .len (.t 19), none⟩ ::
    ⟨some 21, .mv 0 (.c (.int .i64 0)), none⟩ ::
    []))
  (.block 0 (.loop (c14_10))))
  (c14_11)
def c14_13 : HCode :=
  .seq (.seq (.region none (⟨some 9, .mv 1 (.t 0), none⟩ ::
    ⟨some 10, .len (.t 9), none⟩ ::
    ⟨some 11, .bin .gtr (.t 10) (.c (.int .i64 256)), none⟩ ::
    ⟨some 12, .mv 0 (.t 11), none⟩ ::
    ⟨some 13, .mv 1 (.t 1), some (3, false)⟩ ::
    ⟨some 14, .len (.t 13), some (3, false)⟩ ::
    ⟨some 15, .mv 1 (.t 0), some (3, false)⟩ ::
    ⟨some 16, .len (.t 15), some (3, false)⟩ ::
    ⟨some 17, .bin .neq (.t 14) (.t 16), some (3, false)⟩ ::
    ⟨some 18, .pick (.t 12) (.c (.bool true)) (.t 17), none⟩ ::
    []))
  (.cond (.t 18) (c14_1) (.skip)))
  (c14_12)
def c14 : HCode :=
  .seq (.region none (⟨some 4, .mv 0 (.c (.bool false)), none⟩ ::
    []))
  (c14_13)
theorem fc14 : funCode Try.prog 14 = some (c14, [4], 55) := by kernel_rfl

def c15_1 : HCode :=
  .seq (.region none (⟨some 4, .mv 0 (.c (.bool false)), none⟩ ::
    []))
  (.ret)
def c15_2 : HCode :=
  .seq (.region none (⟨some 4, .mv 0 (.c (.bool false)), none⟩ ::
    []))
  (.ret)
def c15_3 : HCode :=
  .seq (.region none (⟨some 40, .mv 0 (.t 7), none⟩ ::
    ⟨some 41, .bin .lss (.t 40) (.c (.int .i64 0)), none⟩ ::
    ⟨some 42, .mv 0 (.t 41), none⟩ ::
    ⟨some 43, .mv 0 (.t 7), some (2, false)⟩ ::
    ⟨some 44, .mv 1 (.t 0), some (2, false)⟩ ::
    ⟨some 45, .len (.t 44), some (2, false)⟩ ::
    ⟨some 46, .bin .geq (.t 43) (.t 45), some (2, false)⟩ ::
    ⟨some 47, .pick (.t 42) (.c (.bool true)) (.t 46), none⟩ ::
    ⟨some 48, .mv 0 (.t 47), none⟩ ::
    ⟨some 49, .mv 0 (.t 6), some (8, false)⟩ ::
    ⟨some 50, .bin .gtr (.t 49) (.c (.int .i64 0)), some (8, false)⟩ ::
    ⟨some 51, .mv 0 (.t 50), some (8, false)⟩ ::
    ⟨some 52, .mv 0 (.t 7), some (11, true)⟩ ::
    ⟨some 53, .mv 1 (.t 0), some (11, true)⟩ ::
    ⟨some 54, .mv 0 (.t 5), some (11, true)⟩ ::
    ⟨some 55, .iaddr 1 (.t 53) (.t 54), some (11, true)⟩ ::
    ⟨some 56, .load false 1 (.t 55), some (11, true)⟩ ::
    ⟨some 57, .mv 0 (.t 6), some (11, true)⟩ ::
    ⟨some 58, .bin .sub (.t 57) (.c (.int .i64 1)), some (11, true)⟩ ::
    ⟨some 59, .iaddr 1 (.t 56) (.t 58), some (11, true)⟩ ::
    ⟨some 60, .load false 1 (.t 59), some (11, true)⟩ ::
    ⟨some 61, .bin .leq (.t 52) (.t 60), some (11, true)⟩ ::
    ⟨some 62, .pick (.t 51) (.t 61) (.c (.bool false)), some (8, false)⟩ ::
    ⟨some 63, .pick (.t 48) (.c (.bool true)) (.t 62), none⟩ ::
    []))
  (.cond (.t 63) (c15_2) (.skip))
def c15_4 : HCode :=
  .region none (⟨some 31, .mv 0 (.t 6), none⟩ ::
    ⟨some 32, .bin .add (.t 31) (.c (.int .i64 1)), none⟩ ::
    ⟨some 6, .mv 0 (.t 32), none⟩ ::
    [])
def c15_5 : HCode :=
  .seq (.block 3 (.seq (.region none (⟨some 33, .mv 1 (.t 0), none⟩ ::
      ⟨some 34, .mv 0 (.t 5), none⟩ ::
      ⟨some 35, .iaddr 1 (.t 33) (.t 34), none⟩ ::
      ⟨some 36, .load false 1 (.t 35), none⟩ ::
      ⟨some 37, .mv 0 (.t 6), none⟩ ::
      ⟨some 38, .iaddr 1 (.t 36) (.t 37), none⟩ ::
      ⟨some 39, .load false 1 (.t 38), none⟩ ::
      ⟨some 7, .mv 0 (.t 39), none⟩ ::
      []))
    (c15_3)))
  (c15_4)
def c15_6 : HCode :=
  .seq (.seq (.region none (⟨some 24, .mv 0 (.t 6), none⟩ ::
    ⟨some 25, .mv 1 (.t 0), none⟩ ::
    ⟨some 26, .mv 0 (.t 5), none⟩ ::
    ⟨some 27, .iaddr 1 (.t 25) (.t 26), none⟩ ::
    ⟨some 28, .load false 1 (.t 27), none⟩ ::
    ⟨some 29, .len (.t 28), none⟩ ::
    ⟨some 30, .bin .lss (.t 24) (.t 29), none⟩ ::
    []))
  (.cond (.t 30) (.skip) (.exit 2)))
  (c15_5)
def c15_7 : HCode :=
  .region none (⟨some 22, .mv 0 (.t 5), none⟩ ::
    ⟨some 23, .bin .add (.t 22) (.c (.int .i64 1)), none⟩ ::
    ⟨some 5, .mv 0 (.t 23), none⟩ ::
    [])
def c15_8 : HCode :=
  .seq (.block 1 (.seq (.region none (⟨some 6, .mv 0 (.c (.int .i64 0)), none⟩ ::
      []))
    (.block 2 (.loop (c15_6)))))
  (c15_7)
def c15_9 : HCode :=
  .seq (.seq (.region none (⟨some 18, .mv 0 (.t 5), none⟩ ::
    ⟨some 19, .mv 1 (.t 0), none⟩ ::
    ⟨some 20, .len (.t 19), none⟩ ::
    ⟨some 21, .bin .lss (.t 18) (.t 20), none⟩ ::
    []))
  (.cond (.t 21) (.skip) (.exit 0)))
  (c15_8)
def c15_10 : HCode :=
  .seq (.region none (⟨some 4, .mv 0 (.c (.bool true)), none⟩ ::
    []))
  (.ret)
def c15_11 : HCode :=
  .seq (.seq (.region none (⟨some 5, .mv 0 (.c (.int .i64 0)), none⟩ ::
    []))
  (.block 0 (.loop (c15_9))))
  (c15_10)
def c15_12 : HCode :=
  .seq (.seq (.region none (⟨some 8, .mv 1 (.t 0), none⟩ ::
    ⟨some 9, .len (.t 8), none⟩ ::
    ⟨some 10, .bin .gtr (.t 9) (.c (.int .i64 256)), none⟩ ::
    ⟨some 11, .mv 0 (.t 10), none⟩ ::
    ⟨some 12, .mv 1 (.t 1), some (3, false)⟩ ::
    ⟨some 13, .len (.t 12), some (3, false)⟩ ::
    ⟨some 14, .mv 1 (.t 0), some (3, false)⟩ ::
    ⟨some 15, .len (.t 14), some (3, false)⟩ ::
    ⟨some 16, .bin .neq (.t 13) (.t 15), some (3, false)⟩ ::
    ⟨some 17, .pick (.t 11) (.c (.bool true)) (.t 16), none⟩ ::
    []))
  (.cond (.t 17) (c15_1) (.skip)))
  (c15_11)
def c15 : HCode :=
  .seq (.region none (⟨some 4, .mv 0 (.c (.bool false)), none⟩ ::
    []))
  (c15_12)
theorem fc15 : funCode Try.prog 15 = some (c15, [4], 64) := by kernel_rfl

def c16_1 : HCode :=
  .seq (.region none (⟨some 4, .mv 0 (.c (.bool false)), none⟩ ::
    []))
  (.ret)
def c16_2 : HCode :=
  .seq (.region none (⟨some 4, .mv 0 (.c (.bool false)), none⟩ ::
    []))
  (.ret)
def c16_3 : HCode :=
  .region none (⟨some 15, .mv 0 (.t 5), none⟩ ::
    ⟨some 16, .bin .add (.t 15) (.c (.int .i64 1)), none⟩ ::
    ⟨some 5, .mv 0 (.t 16), none⟩ ::
    [])
def c16_4 : HCode :=
  .seq (.block 1 (.seq (.region (some [0, 0, 3, 7, 0, 0, 48, 112, 255]) (⟨some 17, .mv 1 (.t 0), none⟩ ::
      ⟨some 18, .mv 0 (.t 5), none⟩ ::
      ⟨some 19, .iaddr 1 (.t 17) (.t 18), none⟩ ::
      ⟨some 20, .load false 1 (.t 19), none⟩ ::
      ⟨some 21, .mv 1 (.t 1), none⟩ ::
      ⟨some 22, .mv 0 (.t 5), none⟩ ::
      ⟨some 23, .iaddr 1 (.t 21) (.t 22), none⟩ ::
      ⟨some 24, .load false 1 (.t 23), none⟩ ::
      ⟨some 25, .bin .neq (.t 20) (.t 24), none⟩ ::
      []))
    (.cond (.t 25) (c16_2) (.skip))))
  (c16_3)
def c16_5 : HCode :=
  .seq (.seq (.region none (⟨some 11, .mv 0 (.t 5), none⟩ ::
    ⟨some 12, .mv 1 (.t 0), none⟩ ::
    ⟨some 13, .len (.t 12), none⟩ ::
    ⟨some 14, .bin .lss (.t 11) (.t 13), none⟩ ::
    []))
  (.cond (.t 14) (.skip) (.exit 0)))
  (c16_4)
def c16_6 : HCode :=
  .seq (.region none (⟨some 4, .mv 0 (.c (.bool true)), none⟩ ::
    []))
  (.ret)
def c16_7 : HCode :=
  .seq (.seq (.region none (⟨some 5, .mv 0 (.c (.int .i64 0)), none⟩ ::
    []))
  (.block 0 (.loop (c16_5))))
  (c16_6)
def c16_8 : HCode :=
  .seq (.seq (.region none (⟨some 6, .mv 1 (.t 0), none⟩ ::
    ⟨some 7, .len (.t 6), none⟩ ::
    ⟨some 8, .mv 1 (.t 1), none⟩ ::
    ⟨some 9, .len (.t 8), none⟩ ::
    ⟨some 10, .bin .neq (.t 7) (.t 9), none⟩ ::
    []))
  (.cond (.t 10) (c16_1) (.skip)))
  (c16_7)
def c16 : HCode :=
  .seq (.region none (⟨some 4, .mv 0 (.c (.bool false)), none⟩ ::
    []))
  (c16_8)
theorem fc16 : funCode Try.prog 16 = some (c16, [4], 26) := by kernel_rfl

def c17_1 : HCode :=
  .seq (.region none (⟨some 4, .mv 1 (.c (.nils)), none⟩ ::
    []))
  (.ret)
def c17_2 : HCode :=
  .region none (⟨some 53, .mv 1 (.t 7), none⟩ ::
    ⟨some 54, .mv 0 (.t 12), none⟩ ::
    ⟨some 55, .mv 1 (.t 7), none⟩ ::
    ⟨some 56, .mv 0 (.t 12), none⟩ ::
    ⟨some 57, .iaddr 1 (.t 55) (.t 56), none⟩ ::
    ⟨some 58, .load false 1 (.t 57), none⟩ ::
    ⟨some 59, .mv 0 (.t 9), none⟩ ::
    ⟨some 60, .bsl 1 1 [(.t 59)], none⟩ ::
    ⟨some 61, .app true 1 8 (.t 58) (.t 60), none⟩ ::
    ⟨some 62, .iaddr 1 (.t 53) (.t 54), none⟩ ::
    ⟨none, .store false 1 (.t 62) (.t 61), none⟩ ::
    [])
def c17_3 : HCode :=
  .region none (⟨some 63, .bin .add (.t 49) (.c (.int .i64 1)), none⟩ ::
    ⟨some 49, .mv 0 (.t 63), none⟩ ::
    [])
def c17_4 : HCode :=
  .seq (.block 3 (.seq (.region none (⟨some 51, .iaddr 1 (.t 47) (.t 49), none⟩ ::
      ⟨some 52, .load false 1 (.t 51), none⟩ ::
      ⟨some 12, .mv 0 (.t 52), none⟩ ::
      []))
    (c17_2)))
  (c17_3)
def c17_5 : HCode :=
  .seq (.region none (⟨some 50, .bin .lss (.t 49) (.t 48), none⟩ ::
    []))
  (.seq (.cond (.t 50) (.skip) (.exit 2))
  (c17_4))
def c17_6 : HCode :=
  .region none (⟨some 74, .mv 1 (.t 8), none⟩ ::
    ⟨some 75, .mv 0 (.t 9), none⟩ ::
    ⟨some 76, .bsl 1 1 [(.t 75)], none⟩ ::
    ⟨some 77, .app true 1 8 (.t 74) (.t 76), none⟩ ::
    ⟨some 8, .mv 1 (.t 77), none⟩ ::
    [])
def c17_7 : HCode :=
  .seq (.region none (⟨some 64, .mv 1 (.t 10), none⟩ ::
    ⟨some 65, .len (.t 64), none⟩ ::
    ⟨some 66, .bin .eql (.t 65) (.c (.int .i64 0)), none⟩ ::
    ⟨some 67, .mv 0 (.t 66), none⟩ ::
    ⟨some 68, .mv 1 (.t 1), some (3, true)⟩ ::
    ⟨some 69, .mv 0 (.t 9), some (3, true)⟩ ::
    ⟨some 70, .iaddr 1 (.t 68) (.t 69), some (3, true)⟩ ::
    ⟨some 71, .load false 1 (.t 70), some (3, true)⟩ ::
    ⟨some 72, .un .not (.t 71), some (3, true)⟩ ::
    ⟨some 73, .pick (.t 67) (.t 72) (.c (.bool false)), none⟩ ::
    []))
  (.cond (.t 73) (c17_6) (.skip))
def c17_8 : HCode :=
  .seq (.seq (.region none (⟨some 47, .mv 1 (.t 10), none⟩ ::
    ⟨some 48, .len (.t 47), none⟩ ::
    ⟨some 49, .mv 0 (.c (.int .i64 0)), none⟩ ::
    []))
  (.block 2 (.loop (c17_5))))
  (c17_7)
def c17_9 : HCode :=
  .seq (.region none (⟨some 42, .mv 1 (.t 6), none⟩ ::
    ⟨some 43, .mv 0 (.t 9), none⟩ ::
    ⟨some 44, .mv 1 (.t 10), none⟩ ::
    ⟨some 45, .len (.t 44), none⟩ ::
    ⟨some 46, .iaddr 1 (.t 42) (.t 43), none⟩ ::
    ⟨none, .store true 1 (.t 46) (.t 45), none⟩ ::
    []))
  (c17_8)
def c17_10 : HCode :=
  .seq (.region none (⟨some 39, .mv 1 (.t 5), none⟩ ::
    ⟨some 40, .mv 0 (.t 9), none⟩ ::
    ⟨some 41, .iaddr 1 (.t 39) (.t 40), none⟩ ::
    ⟨none, .store true 1 (.t 41) (.c (.int .i64 (-1))), none⟩ ::
    []))
  (c17_9)
def c17_11 : HCode :=
  .region none (⟨some 78, .bin .add (.t 34) (.c (.int .i64 1)), none⟩ ::
    ⟨some 34, .mv 0 (.t 78), none⟩ ::
    [])
def c17_12 : HCode :=
  .seq (.block 1 (.seq (.region none (⟨some 36, .mv 0 (.t 34), none⟩ ::
      ⟨some 37, .iaddr 1 (.t 32) (.t 34), none⟩ ::
      ⟨some 38, .load false 1 (.t 37), none⟩ ::
      ⟨some 9, .mv 0 (.t 36), none⟩ ::
      ⟨some 10, .mv 1 (.t 38), none⟩ ::
      []))
    (c17_10)))
  (c17_11)
def c17_13 : HCode :=
  .seq (.region none (⟨some 35, .bin .lss (.t 34) (.t 33), none⟩ ::
    []))
  (.seq (.cond (.t 35) (.skip) (.exit 0))
  (c17_12))
def c17_14 : HCode :=
  .region none (⟨some 121, .mv 1 (.t 14), none⟩ ::
    ⟨some 122, .mv 0 (.t 18), none⟩ ::
    ⟨some 123, .bsl 1 1 [(.t 122)], none⟩ ::
    ⟨some 124, .app true 1 8 (.t 121) (.t 123), none⟩ ::
    ⟨some 14, .mv 1 (.t 124), none⟩ ::
    [])
def c17_15 : HCode :=
  .seq (.region none (⟨some 109, .mv 1 (.t 6), none⟩ ::
    ⟨some 110, .mv 0 (.t 18), none⟩ ::
    ⟨some 111, .iaddr 1 (.t 109) (.t 110), none⟩ ::
    ⟨some 112, .load false 1 (.t 111), none⟩ ::
    ⟨some 113, .bin .eql (.t 112) (.c (.int .i64 0)), none⟩ ::
    ⟨some 114, .mv 0 (.t 113), none⟩ ::
    ⟨some 115, .mv 1 (.t 1), some (5, true)⟩ ::
    ⟨some 116, .mv 0 (.t 18), some (5, true)⟩ ::
    ⟨some 117, .iaddr 1 (.t 115) (.t 116), some (5, true)⟩ ::
    ⟨some 118, .load false 1 (.t 117), some (5, true)⟩ ::
    ⟨some 119, .un .not (.t 118), some (5, true)⟩ ::
    ⟨some 120, .pick (.t 114) (.t 119) (.c (.bool false)), none⟩ ::
    []))
  (.cond (.t 120) (c17_14) (.skip))
def c17_16 : HCode :=
  .seq (.region none (⟨some 103, .mv 1 (.t 6), none⟩ ::
    ⟨some 104, .mv 0 (.t 18), none⟩ ::
    ⟨some 105, .iaddr 1 (.t 103) (.t 104), none⟩ ::
    ⟨some 106, .load false 1 (.t 105), none⟩ ::
    ⟨some 107, .bin .sub (.t 106) (.c (.int .i64 1)), none⟩ ::
    ⟨some 108, .iaddr 1 (.t 103) (.t 104), none⟩ ::
    ⟨none, .store true 1 (.t 108) (.t 107), none⟩ ::
    []))
  (c17_15)
def c17_17 : HCode :=
  .region none (⟨some 125, .bin .add (.t 99) (.c (.int .i64 1)), none⟩ ::
    ⟨some 99, .mv 0 (.t 125), none⟩ ::
    [])
def c17_18 : HCode :=
  .seq (.block 9 (.seq (.region none (⟨some 101, .iaddr 1 (.t 97) (.t 99), none⟩ ::
      ⟨some 102, .load false 1 (.t 101), none⟩ ::
      ⟨some 18, .mv 0 (.t 102), none⟩ ::
      []))
    (c17_16)))
  (c17_17)
def c17_19 : HCode :=
  .seq (.region none (⟨some 100, .bin .lss (.t 99) (.t 98), none⟩ ::
    []))
  (.seq (.cond (.t 100) (.skip) (.exit 8))
  (c17_18))
def c17_20 : HCode :=
  .seq (.region none (⟨some 94, .mv 1 (.t 7), none⟩ ::
    ⟨some 95, .mv 0 (.t 16), none⟩ ::
    ⟨some 96, .iaddr 1 (.t 94) (.t 95), none⟩ ::
    ⟨some 97, .load false 1 (.t 96), none⟩ ::
    ⟨some 98, .len (.t 97), none⟩ ::
    ⟨some 99, .mv 0 (.c (.int .i64 0)), none⟩ ::
    []))
  (.block 8 (.loop (c17_19)))
def c17_21 : HCode :=
  .seq (.region none (⟨some 90, .mv 1 (.t 5), none⟩ ::
    ⟨some 91, .mv 0 (.t 16), none⟩ ::
    ⟨some 92, .mv 0 (.t 13), none⟩ ::
    ⟨some 93, .iaddr 1 (.t 90) (.t 91), none⟩ ::
    ⟨none, .store true 1 (.t 93) (.t 92), none⟩ ::
    []))
  (c17_20)
def c17_22 : HCode :=
  .region none (⟨some 126, .bin .add (.t 86) (.c (.int .i64 1)), none⟩ ::
    ⟨some 86, .mv 0 (.t 126), none⟩ ::
    [])
def c17_23 : HCode :=
  .seq (.block 7 (.seq (.region none (⟨some 88, .iaddr 1 (.t 84) (.t 86), none⟩ ::
      ⟨some 89, .load false 1 (.t 88), none⟩ ::
      ⟨some 16, .mv 0 (.t 89), none⟩ ::
      []))
    (c17_21)))
  (c17_22)
def c17_24 : HCode :=
  .seq (.region none (⟨some 87, .bin .lss (.t 86) (.t 85), none⟩ ::
    []))
  (.seq (.cond (.t 87) (.skip) (.exit 6))
  (c17_23))
def c17_25 : HCode :=
  .region none (⟨some 127, .mv 1 (.t 14), none⟩ ::
    ⟨some 8, .mv 1 (.t 127), none⟩ ::
    [])
def c17_26 : HCode :=
  .seq (.seq (.region none (⟨some 84, .mv 1 (.t 8), none⟩ ::
    ⟨some 85, .len (.t 84), none⟩ ::
    ⟨some 86, .mv 0 (.c (.int .i64 0)), none⟩ ::
    []))
  (.block 6 (.loop (c17_24))))
  (c17_25)
def c17_27 : HCode :=
  .region none (⟨some 82, .mv 0 (.t 13), none⟩ ::
    ⟨some 83, .bin .add (.t 82) (.c (.int .i64 1)), none⟩ ::
    ⟨some 13, .mv 0 (.t 83), none⟩ ::
    [])
def c17_28 : HCode :=
  .seq (.block 5 (.seq (.region none (⟨some 14, .mv 1 (.c (.nils)), none⟩ ::
      []))
    (c17_26)))
  (c17_27)
def c17_29 : HCode :=
  .seq (.seq (.region none (⟨some 79, .mv 1 (.t 8), none⟩ ::
    ⟨some 80, .len (.t 79), none⟩ ::
    ⟨some 81, .bin .gtr (.t 80) (.c (.int .i64 0)), none⟩ ::
    []))
  (.cond (.t 81) (.skip) (.exit 4)))
  (c17_28)
def c17_30 : HCode :=
  .seq (.region none (⟨some 128, .mv 1 (.t 5), none⟩ ::
    ⟨some 4, .mv 1 (.t 128), none⟩ ::
    []))
  (.ret)
def c17_31 : HCode :=
  .seq (.seq (.region none (⟨some 13, .mv 0 (.c (.int .i64 0)), none⟩ ::
    []))
  (.block 4 (.loop (c17_29))))
  (c17_30)
def c17_32 : HCode :=
  .seq (.seq (.region none (⟨some 32, .mv 1 (.t 0), none⟩ ::
    ⟨some 33, .len (.t 32), none⟩ ::
    ⟨some 34, .mv 0 (.c (.int .i64 0)), none⟩ ::
    []))
  (.block 0 (.loop (c17_13))))
  (c17_31)
def c17_33 : HCode :=
  .seq (.region none (⟨some 8, .mv 1 (.c (.nils)), none⟩ ::
    []))
  (c17_32)
def c17_34 : HCode :=
  .seq (.region none (⟨some 29, .mv 1 (.t 0), none⟩ ::
    ⟨some 30, .len (.t 29), none⟩ ::
    ⟨some 31, .mksl 1 24 [.osl 1 0 []] (.t 30), none⟩ ::
    ⟨some 7, .mv 1 (.t 31), none⟩ ::
    []))
  (c17_33)
def c17_35 : HCode :=
  .seq (.region none (⟨some 26, .mv 1 (.t 0), none⟩ ::
    ⟨some 27, .len (.t 26), none⟩ ::
    ⟨some 28, .mksl 1 8 [.int .i64 0] (.t 27), none⟩ ::
    ⟨some 6, .mv 1 (.t 28), none⟩ ::
    []))
  (c17_34)
def c17_36 : HCode :=
  .seq (.region none (⟨some 23, .mv 1 (.t 0), none⟩ ::
    ⟨some 24, .len (.t 23), none⟩ ::
    ⟨some 25, .mksl 1 8 [.int .i64 0] (.t 24), none⟩ ::
    ⟨some 5, .mv 1 (.t 25), none⟩ ::
    []))
  (c17_35)
def c17_37 : HCode :=
  .seq (.seq (.region none (⟨some 19, .mv 1 (.t 0), none⟩ ::
    ⟨some 20, .mv 1 (.t 1), none⟩ ::
    ⟨some 21, .call 14 [(.t 19), (.t 20)], none⟩ ::
    ⟨some 22, .un .not (.t 21), none⟩ ::
    []))
  (.cond (.t 22) (c17_1) (.skip)))
  (c17_36)
def c17 : HCode :=
  .seq (.region none (⟨some 4, .mv 1 (.c (.nils)), none⟩ ::
    []))
  (c17_37)
theorem fc17 : funCode Try.prog 17 = some (c17, [4], 129) := by kernel_rfl

def c20_1 : HCode :=
  .seq (.region none (⟨some 57, .mv 1 (.t 1), none⟩ ::
    ⟨some 58, .mv 1 (.t 2), none⟩ ::
    ⟨some 59, .call 14 [(.t 57), (.t 58)], none⟩ ::
    ⟨some 60, .mv 0 (.t 59), none⟩ ::
    ⟨some 61, .mv 0 (.t 3), some (3, true)⟩ ::
    ⟨some 62, .pick (.t 60) (.t 61) (.c (.bool false)), none⟩ ::
    ⟨some 63, .mv 0 (.t 62), none⟩ ::
    ⟨some 64, .mv 0 (.t 4), some (6, true)⟩ ::
    ⟨some 65, .pick (.t 63) (.t 64) (.c (.bool false)), none⟩ ::
    ⟨some 66, .mv 0 (.t 65), none⟩ ::
    ⟨some 67, .mv 1 (.t 1), some (9, true)⟩ ::
    ⟨some 68, .mv 1 (.t 2), some (9, true)⟩ ::
    ⟨some 69, .call 24 [(.t 67), (.t 68), (.c (.int .i64 1))], some (9, true)⟩ ::
    ⟨some 70, .len (.t 69), some (9, true)⟩ ::
    ⟨some 71, .bin .eql (.t 70) (.c (.int .i64 0)), some (9, true)⟩ ::
    ⟨some 72, .pick (.t 66) (.t 71) (.c (.bool false)), none⟩ ::
    ⟨some 73, .mv 0 (.t 72), none⟩ ::
    ⟨some 74, .mv 1 (.t 1), some (16, true)⟩ ::
    ⟨some 75, .mv 1 (.t 2), some (16, true)⟩ ::
    ⟨some 76, .call 27 [(.t 74), (.t 75)], some (16, true)⟩ ::
    ⟨some 77, .bsl 1 2 [(.c (.int .i64 2)), (.c (.int .i64 3))], some (16, true)⟩ ::
    ⟨some 78, .call 16 [(.t 76), (.t 77)], some (16, true)⟩ ::
    ⟨some 79, .pick (.t 73) (.t 78) (.c (.bool false)), none⟩ ::
    ⟨some 0, .mv 0 (.t 79), none⟩ ::
    []))
  (.ret)
def c20_2 : HCode :=
  .seq (.region none (⟨some 31, .mv 1 (.t 1), none⟩ ::
    ⟨some 32, .mv 1 (.t 2), none⟩ ::
    ⟨some 33, .call 24 [(.t 31), (.t 32), (.c (.int .i64 2))], none⟩ ::
    ⟨some 34, .bsl 1 3 [(.c (.int .i64 2)), (.c (.int .i64 3)), (.c (.int .i64 2))], none⟩ ::
    ⟨some 35, .call 16 [(.t 33), (.t 34)], none⟩ ::
    ⟨some 36, .mv 0 (.t 35), none⟩ ::
    ⟨some 37, .mv 1 (.t 1), some (5, true)⟩ ::
    ⟨some 38, .mv 1 (.t 2), some (5, true)⟩ ::
    ⟨some 39, .call 24 [(.t 37), (.t 38), (.c (.int .i64 3))], some (5, true)⟩ ::
    ⟨some 40, .bsl 1 3 [(.c (.int .i64 3)), (.c (.int .i64 2)), (.c (.int .i64 3))], some (5, true)⟩ ::
    ⟨some 41, .call 16 [(.t 39), (.t 40)], some (5, true)⟩ ::
    ⟨some 42, .pick (.t 36) (.t 41) (.c (.bool false)), none⟩ ::
    ⟨some 43, .mv 0 (.t 42), none⟩ ::
    ⟨some 44, .mv 1 (.t 1), some (12, true)⟩ ::
    ⟨some 45, .mv 1 (.t 2), some (12, true)⟩ ::
    ⟨some 46, .call 24 [(.t 44), (.t 45), (.c (.int .i64 4))], some (12, true)⟩ ::
    ⟨some 47, .bsl 1 2 [(.c (.int .i64 4)), (.c (.int .i64 5))], some (12, true)⟩ ::
    ⟨some 48, .call 16 [(.t 46), (.t 47)], some (12, true)⟩ ::
    ⟨some 49, .pick (.t 43) (.t 48) (.c (.bool false)), none⟩ ::
    ⟨some 50, .mv 0 (.t 49), none⟩ ::
    ⟨some 51, .mv 1 (.t 1), some (19, true)⟩ ::
    ⟨some 52, .mv 1 (.t 2), some (19, true)⟩ ::
    ⟨some 53, .call 24 [(.t 51), (.t 52), (.c (.int .i64 5))], some (19, true)⟩ ::
    ⟨some 54, .bsl 1 1 [(.c (.int .i64 5))], some (19, true)⟩ ::
    ⟨some 55, .call 16 [(.t 53), (.t 54)], some (19, true)⟩ ::
    ⟨some 56, .pick (.t 50) (.t 55) (.c (.bool false)), none⟩ ::
    ⟨some 4, .mv 0 (.t 56), none⟩ ::
    []))
  (c20_1)
def c20_3 : HCode :=
  .seq (.region none (⟨some 13, .mv 1 (.t 1), none⟩ ::
    ⟨some 14, .mv 1 (.t 2), none⟩ ::
    ⟨some 15, .call 17 [(.t 13), (.t 14)], none⟩ ::
    ⟨some 16, .bsl 1 6 [(.c (.int .i64 0)), (.c (.int .i64 1)), (.c (.int .i64 (-1))), (.c (.int .i64 (-1))), (.c (.int .i64 (-1))), (.c (.int .i64 (-1)))], none⟩ ::
    ⟨some 17, .call 16 [(.t 15), (.t 16)], none⟩ ::
    ⟨some 18, .mv 0 (.t 17), none⟩ ::
    ⟨some 19, .mv 1 (.t 1), some (5, true)⟩ ::
    ⟨some 20, .mv 1 (.t 2), some (5, true)⟩ ::
    ⟨some 21, .bsl 1 6 [(.c (.int .i64 0)), (.c (.int .i64 7)), (.c (.int .i64 (-1))), (.c (.int .i64 (-1))), (.c (.int .i64 (-1))), (.c (.int .i64 (-1)))], some (5, true)⟩ ::
    ⟨some 22, .call 21 [(.t 19), (.t 20), (.t 21)], some (5, true)⟩ ::
    ⟨some 23, .pick (.t 18) (.t 22) (.c (.bool false)), none⟩ ::
    ⟨some 24, .mv 0 (.t 23), none⟩ ::
    ⟨some 25, .mv 1 (.t 1), some (11, true)⟩ ::
    ⟨some 26, .mv 1 (.t 2), some (11, true)⟩ ::
    ⟨some 27, .bsl 1 6 [(.c (.int .i64 0)), (.c (.int .i64 1)), (.c (.int .i64 5)), (.c (.int .i64 (-1))), (.c (.int .i64 (-1))), (.c (.int .i64 (-1)))], some (11, true)⟩ ::
    ⟨some 28, .call 21 [(.t 25), (.t 26), (.t 27)], some (11, true)⟩ ::
    ⟨some 29, .un .not (.t 28), some (11, true)⟩ ::
    ⟨some 30, .pick (.t 24) (.t 29) (.c (.bool false)), none⟩ ::
    ⟨some 3, .mv 0 (.t 30), none⟩ ::
    []))
  (c20_2)
def c20_4 : HCode :=
  .seq (.region none (⟨some 12, .bsl 1 6 [(.c (.bool false)), (.c (.bool false)), (.c (.bool false)), (.c (.bool false)), (.c (.bool false)), (.c (.bool true))], none⟩ ::
    ⟨some 2, .mv 1 (.t 12), none⟩ ::
    []))
  (c20_3)
def c20_5 : HCode :=
  .seq (.region none (⟨some 5, .bsl 1 0 [], none⟩ ::
    ⟨some 6, .bsl 1 1 [(.c (.int .i64 0))], none⟩ ::
    ⟨some 7, .bsl 1 2 [(.c (.int .i64 1)), (.c (.int .i64 3))], none⟩ ::
    ⟨some 8, .bsl 1 1 [(.c (.int .i64 2))], none⟩ ::
    ⟨some 9, .bsl 1 1 [(.c (.int .i64 5))], none⟩ ::
    ⟨some 10, .bsl 1 0 [], none⟩ ::
    ⟨some 11, .bsl 1 6 [(.t 5), (.t 6), (.t 7), (.t 8), (.t 9), (.t 10)], none⟩ ::
    ⟨some 1, .mv 1 (.t 11), none⟩ ::
    []))
  (c20_4)
def c20 : HCode :=
  .seq (.region none (⟨some 0, .mv 0 (.c (.bool false)), none⟩ ::
    []))
  (c20_5)
theorem fc20 : funCode Try.prog 20 = some (c20, [0], 80) := by kernel_rfl

def c21_1 : HCode :=
  .seq (.region none (⟨some 6, .mv 0 (.c (.bool false)), none⟩ ::
    []))
  (.ret)
def c21_2 : HCode :=
  .seq (.region none (⟨some 6, .mv 0 (.c (.bool false)), none⟩ ::
    []))
  (.ret)
def c21_3 : HCode :=
  .seq (.region none (⟨some 6, .mv 0 (.c (.bool false)), none⟩ ::
    []))
  (.ret)
def c21_4 : HCode :=
  .seq (.region none (⟨some 67, .mv 0 (.t 8), none⟩ ::
    ⟨some 68, .bin .eql (.t 67) (.c (.int .i64 (-1))), none⟩ ::
    ⟨some 69, .mv 0 (.t 68), none⟩ ::
    ⟨some 70, .mv 1 (.t 2), some (2, true)⟩ ::
    ⟨some 71, .mv 0 (.t 10), some (2, true)⟩ ::
    ⟨some 72, .iaddr 1 (.t 70) (.t 71), some (2, true)⟩ ::
    ⟨some 73, .load false 1 (.t 72), some (2, true)⟩ ::
    ⟨some 74, .bin .eql (.t 73) (.c (.int .i64 (-1))), some (2, true)⟩ ::
    ⟨some 75, .pick (.t 69) (.t 74) (.c (.bool false)), none⟩ ::
    []))
  (.cond (.t 75) (.exit 1) (.skip))
def c21_5 : HCode :=
  .seq (.seq (.region none (⟨some 50, .mv 0 (.t 8), none⟩ ::
    ⟨some 51, .bin .geq (.t 50) (.c (.int .i64 0)), none⟩ ::
    ⟨some 52, .mv 0 (.t 51), none⟩ ::
    ⟨some 53, .mv 1 (.t 2), some (2, true)⟩ ::
    ⟨some 54, .mv 0 (.t 10), some (2, true)⟩ ::
    ⟨some 55, .iaddr 1 (.t 53) (.t 54), some (2, true)⟩ ::
    ⟨some 56, .load false 1 (.t 55), some (2, true)⟩ ::
    ⟨some 57, .bin .lss (.t 56) (.c (.int .i64 0)), some (2, true)⟩ ::
    ⟨some 58, .mv 0 (.t 57), some (2, true)⟩ ::
    ⟨some 59, .mv 1 (.t 2), some (8, false)⟩ ::
    ⟨some 60, .mv 0 (.t 10), some (8, false)⟩ ::
    ⟨some 61, .iaddr 1 (.t 59) (.t 60), some (8, false)⟩ ::
    ⟨some 62, .load false 1 (.t 61), some (8, false)⟩ ::
    ⟨some 63, .mv 0 (.t 8), some (8, false)⟩ ::
    ⟨some 64, .bin .geq (.t 62) (.t 63), some (8, false)⟩ ::
    ⟨some 65, .pick (.t 58) (.c (.bool true)) (.t 64), some (2, true)⟩ ::
    ⟨some 66, .pick (.t 52) (.t 65) (.c (.bool false)), none⟩ ::
    []))
  (.cond (.t 66) (c21_3) (.skip)))
  (c21_4)
def c21_6 : HCode :=
  .region none (⟨some 76, .bin .add (.t 46) (.c (.int .i64 1)), none⟩ ::
    ⟨some 46, .mv 0 (.t 76), none⟩ ::
    [])
def c21_7 : HCode :=
  .seq (.block 3 (.seq (.region none (⟨some 48, .iaddr 1 (.t 44) (.t 46), none⟩ ::
      ⟨some 49, .load false 1 (.t 48), none⟩ ::
      ⟨some 10, .mv 0 (.t 49), none⟩ ::
      []))
    (c21_5)))
  (c21_6)
def c21_8 : HCode :=
  .seq (.region none (⟨some 47, .bin .lss (.t 46) (.t 45), none⟩ ::
    []))
  (.seq (.cond (.t 47) (.skip) (.exit 2))
  (c21_7))
def c21_9 : HCode :=
  .seq (.region none (⟨some 6, .mv 0 (.c (.bool false)), none⟩ ::
    []))
  (.ret)
def c21_10 : HCode :=
  .seq (.region none (⟨some 77, .mv 0 (.t 8), none⟩ ::
    ⟨some 78, .bin .eql (.t 77) (.c (.int .i64 (-1))), none⟩ ::
    ⟨some 79, .mv 0 (.t 78), none⟩ ::
    ⟨some 80, .mv 1 (.t 1), some (2, true)⟩ ::
    ⟨some 81, .mv 0 (.t 7), some (2, true)⟩ ::
    ⟨some 82, .iaddr 1 (.t 80) (.t 81), some (2, true)⟩ ::
    ⟨some 83, .load false 1 (.t 82), some (2, true)⟩ ::
    ⟨some 84, .un .not (.t 83), some (2, true)⟩ ::
    ⟨some 85, .pick (.t 79) (.t 84) (.c (.bool false)), none⟩ ::
    []))
  (.cond (.t 85) (c21_9) (.skip))
def c21_11 : HCode :=
  .seq (.seq (.region none (⟨some 41, .mv 1 (.t 0), none⟩ ::
    ⟨some 42, .mv 0 (.t 7), none⟩ ::
    ⟨some 43, .iaddr 1 (.t 41) (.t 42), none⟩ ::
    ⟨some 44, .load false 1 (.t 43), none⟩ ::
    ⟨some 45, .len (.t 44), none⟩ ::
    ⟨some 46, .mv 0 (.c (.int .i64 0)), none⟩ ::
    []))
  (.block 2 (.loop (c21_8))))
  (c21_10)
def c21_12 : HCode :=
  .seq (.seq (.region none (⟨some 29, .mv 0 (.t 8), none⟩ ::
    ⟨some 30, .bin .lss (.t 29) (.c (.int .i64 (-1))), none⟩ ::
    ⟨some 31, .mv 0 (.t 30), none⟩ ::
    ⟨some 32, .mv 0 (.t 8), some (2, false)⟩ ::
    ⟨some 33, .bin .geq (.t 32) (.c (.int .i64 0)), some (2, false)⟩ ::
    ⟨some 34, .mv 0 (.t 33), some (2, false)⟩ ::
    ⟨some 35, .mv 1 (.t 1), some (5, true)⟩ ::
    ⟨some 36, .mv 0 (.t 7), some (5, true)⟩ ::
    ⟨some 37, .iaddr 1 (.t 35) (.t 36), some (5, true)⟩ ::
    ⟨some 38, .load false 1 (.t 37), some (5, true)⟩ ::
    ⟨some 39, .pick (.t 34) (.t 38) (.c (.bool false)), some (2, false)⟩ ::
    ⟨some 40, .pick (.t 31) (.c (.bool true)) (.t 39), none⟩ ::
    []))
  (.cond (.t 40) (c21_2) (.skip)))
  (c21_11)
def c21_13 : HCode :=
  .region none (⟨some 86, .bin .add (.t 24) (.c (.int .i64 1)), none⟩ ::
    ⟨some 24, .mv 0 (.t 86), none⟩ ::
    [])
def c21_14 : HCode :=
  .seq (.block 1 (.seq (.region none (⟨some 26, .mv 0 (.t 24), none⟩ ::
      ⟨some 27, .iaddr 1 (.t 22) (.t 24), none⟩ ::
      ⟨some 28, .load false 1 (.t 27), none⟩ ::
      ⟨some 7, .mv 0 (.t 26), none⟩ ::
      ⟨some 8, .mv 0 (.t 28), none⟩ ::
      []))
    (c21_12)))
  (c21_13)
def c21_15 : HCode :=
  .seq (.region none (⟨some 25, .bin .lss (.t 24) (.t 23), none⟩ ::
    []))
  (.seq (.cond (.t 25) (.skip) (.exit 0))
  (c21_14))
def c21_16 : HCode :=
  .seq (.region none (⟨some 6, .mv 0 (.c (.bool true)), none⟩ ::
    []))
  (.ret)
def c21_17 : HCode :=
  .seq (.seq (.region none (⟨some 22, .mv 1 (.t 2), none⟩ ::
    ⟨some 23, .len (.t 22), none⟩ ::
    ⟨some 24, .mv 0 (.c (.int .i64 0)), none⟩ ::
    []))
  (.block 0 (.loop (c21_15))))
  (c21_16)
def c21_18 : HCode :=
  .seq (.seq (.region none (⟨some 11, .mv 1 (.t 0), none⟩ ::
    ⟨some 12, .mv 1 (.t 1), none⟩ ::
    ⟨some 13, .call 14 [(.t 11), (.t 12)], none⟩ ::
    ⟨some 14, .un .not (.t 13), none⟩ ::
    ⟨some 15, .mv 0 (.t 14), none⟩ ::
    ⟨some 16, .mv 1 (.t 2), some (4, false)⟩ ::
    ⟨some 17, .len (.t 16), some (4, false)⟩ ::
    ⟨some 18, .mv 1 (.t 0), some (4, false)⟩ ::
    ⟨some 19, .len (.t 18), some (4, false)⟩ ::
    ⟨some 20, .bin .neq (.t 17) (.t 19), some (4, false)⟩ ::
    ⟨some 21, .pick (.t 15) (.c (.bool true)) (.t 20), none⟩ ::
    []))
  (.cond (.t 21) (c21_1) (.skip)))
  (.seq (.skip)
  (c21_17))
def c21 : HCode :=
  .seq (.region none (⟨some 6, .mv 0 (.c (.bool false)), none⟩ ::
    []))
  (c21_18)
theorem fc21 : funCode Try.prog 21 = some (c21, [6], 87) := by kernel_rfl

def c23_1 : HCode :=
  .seq (.region none (⟨some 4, .mv 1 (.t 0), none⟩ ::
    ⟨some 5, .mv 1 (.t 0), none⟩ ::
    ⟨some 6, .call 32 [(.t 5), (.c (.int .i64 0))], none⟩ ::
    ⟨some 7, .call 13 [(.t 6), (.c (.int .i64 10))], none⟩ ::
    ⟨some 8, .call 12 [(.t 4), (.t 7)], none⟩ ::
    ⟨some 9, .ext (.t 8) 0, none⟩ ::
    ⟨some 10, .ext (.t 8) 1, none⟩ ::
    ⟨some 2, .mv 1 (.t 9), none⟩ ::
    ⟨some 3, .mv 1 (.t 10), none⟩ ::
    []))
  (.ret)
def c23 : HCode :=
  .seq (.region none (⟨some 2, .mv 1 (.c (.nils)), none⟩ ::
    ⟨some 3, .mv 1 (.c (.nils)), none⟩ ::
    []))
  (c23_1)
theorem fc23 : funCode Try.prog 23 = some (c23, [2, 3], 11) := by kernel_rfl

def c24_1 : HCode :=
  .seq (.region none (⟨some 6, .mv 1 (.c (.nils)), none⟩ ::
    []))
  (.ret)
def c24_2 : HCode :=
  .region none (⟨some 93, .mv 0 (.t 16), none⟩ ::
    ⟨some 94, .load false 1 (.t 8), none⟩ ::
    ⟨some 95, .mv 0 (.t 15), none⟩ ::
    ⟨some 96, .iaddr 1 (.t 94) (.t 95), none⟩ ::
    ⟨some 97, .load false 1 (.t 96), none⟩ ::
    ⟨some 98, .mv 0 (.t 18), none⟩ ::
    ⟨some 99, .iaddr 1 (.t 97) (.t 98), none⟩ ::
    ⟨some 100, .load false 1 (.t 99), none⟩ ::
    ⟨some 101, .mm false (.t 93) (.t 100), none⟩ ::
    ⟨some 16, .mv 0 (.t 101), none⟩ ::
    [])
def c24_3 : HCode :=
  .seq (.region none (⟨some 85, .load false 1 (.t 8), none⟩ ::
    ⟨some 86, .mv 0 (.t 15), none⟩ ::
    ⟨some 87, .iaddr 1 (.t 85) (.t 86), none⟩ ::
    ⟨some 88, .load false 1 (.t 87), none⟩ ::
    ⟨some 89, .mv 0 (.t 18), none⟩ ::
    ⟨some 90, .iaddr 1 (.t 88) (.t 89), none⟩ ::
    ⟨some 91, .load false 1 (.t 90), none⟩ ::
    ⟨some 92, .bin .geq (.t 91) (.c (.int .i64 0)), none⟩ ::
    []))
  (.cond (.t 92) (c24_2) (.skip))
def c24_4 : HCode :=
  .region none (⟨some 102, .bin .add (.t 81) (.c (.int .i64 1)), none⟩ ::
    ⟨some 81, .mv 0 (.t 102), none⟩ ::
    [])
def c24_5 : HCode :=
  .seq (.block 5 (.seq (.region none (⟨some 83, .iaddr 1 (.t 79) (.t 81), none⟩ ::
      ⟨some 84, .load false 1 (.t 83), none⟩ ::
      ⟨some 18, .mv 0 (.t 84), none⟩ ::
      []))
    (c24_3)))
  (c24_4)
def c24_6 : HCode :=
  .seq (.region none (⟨some 82, .bin .lss (.t 81) (.t 80), none⟩ ::
    []))
  (.seq (.cond (.t 82) (.skip) (.exit 4))
  (c24_5))
def c24_7 : HCode :=
  .seq (.region none (⟨some 106, .mv 1 (.t 11), none⟩ ::
    ⟨some 107, .mv 0 (.t 15), none⟩ ::
    ⟨some 108, .bsl 1 1 [(.t 107)], none⟩ ::
    ⟨some 109, .app true 1 8 (.t 106) (.t 108), none⟩ ::
    ⟨some 11, .mv 1 (.t 109), none⟩ ::
    []))
  (.exit 2)
def c24_8 : HCode :=
  .seq (.region none (⟨some 103, .mv 0 (.t 16), none⟩ ::
    ⟨some 104, .mv 0 (.t 13), none⟩ ::
    ⟨some 105, .bin .eql (.t 103) (.t 104), none⟩ ::
    []))
  (.cond (.t 105) (c24_7) (.skip))
def c24_9 : HCode :=
  .seq (.seq (.region none (⟨some 79, .mv 1 (.t 11), none⟩ ::
    ⟨some 80, .len (.t 79), none⟩ ::
    ⟨some 81, .mv 0 (.c (.int .i64 0)), none⟩ ::
    []))
  (.block 4 (.loop (c24_6))))
  (c24_8)
def c24_10 : HCode :=
  .seq (.region none (⟨some 76, .mv 0 (.t 10), none⟩ ::
    ⟨some 77, .mv 0 (.t 15), none⟩ ::
    ⟨some 78, .callv (.t 76) [(.t 77)], none⟩ ::
    ⟨some 16, .mv 0 (.t 78), none⟩ ::
    []))
  (c24_9)
def c24_11 : HCode :=
  .seq (.seq (.region none (⟨some 71, .mv 1 (.t 7), none⟩ ::
    ⟨some 72, .mv 0 (.t 15), none⟩ ::
    ⟨some 73, .iaddr 1 (.t 71) (.t 72), none⟩ ::
    ⟨some 74, .load false 1 (.t 73), none⟩ ::
    ⟨some 75, .bin .geq (.t 74) (.c (.int .i64 0)), none⟩ ::
    []))
  (.cond (.t 75) (.exit 3) (.skip)))
  (c24_10)
def c24_12 : HCode :=
  .region none (⟨some 110, .bin .add (.t 67) (.c (.int .i64 1)), none⟩ ::
    ⟨some 67, .mv 0 (.t 110), none⟩ ::
    [])
def c24_13 : HCode :=
  .seq (.block 3 (.seq (.region none (⟨some 69, .iaddr 1 (.t 65) (.t 67), none⟩ ::
      ⟨some 70, .load false 1 (.t 69), none⟩ ::
      ⟨some 15, .mv 0 (.t 70), none⟩ ::
      []))
    (c24_11)))
  (c24_12)
def c24_14 : HCode :=
  .seq (.region none (⟨some 68, .bin .lss (.t 67) (.t 66), none⟩ ::
    []))
  (.seq (.cond (.t 68) (.skip) (.exit 2))
  (c24_13))
def c24_15 : HCode :=
  .seq (.region (some [0, 0, 0, 4, 12, 30, 62, 127, 255, 511, 0]) (⟨some 57, .load false 1 (.t 3), none⟩ ::
    ⟨some 58, .mv 1 (.t 11), none⟩ ::
    ⟨some 59, .mv 1 (.t 11), none⟩ ::
    ⟨some 60, .len (.t 59), none⟩ ::
    ⟨some 61, .bin .sub (.t 60) (.c (.int .i64 1)), none⟩ ::
    ⟨some 62, .iaddr 1 (.t 58) (.t 61), none⟩ ::
    ⟨some 63, .load false 1 (.t 62), none⟩ ::
    ⟨some 64, .iaddr 1 (.t 57) (.t 63), none⟩ ::
    ⟨some 65, .load false 1 (.t 64), none⟩ ::
    ⟨some 66, .len (.t 65), none⟩ ::
    ⟨some 67, .mv 0 (.c (.int .i64 0)), none⟩ ::
    []))
  (.block 2 (.loop (c24_14)))
def c24_16 : HCode :=
  .block 1 (.seq (.region none (⟨some 53, .mv 0 (.t 12), none⟩ ::
      ⟨some 54, .mv 1 (.t 11), none⟩ ::
      ⟨some 55, .len (.t 54), none⟩ ::
      ⟨some 56, .bin .sub (.t 53) (.t 55), none⟩ ::
      ⟨some 13, .mv 0 (.t 56), none⟩ ::
      []))
    (c24_15))
def c24_17 : HCode :=
  .seq (.seq (.region none (⟨some 49, .mv 1 (.t 11), none⟩ ::
    ⟨some 50, .len (.t 49), none⟩ ::
    ⟨some 51, .mv 0 (.t 12), none⟩ ::
    ⟨some 52, .bin .leq (.t 50) (.t 51), none⟩ ::
    []))
  (.cond (.t 52) (.skip) (.exit 0)))
  (c24_16)
def c24_18 : HCode :=
  .seq (.region none (⟨some 111, .mv 1 (.t 11), none⟩ ::
    ⟨some 6, .mv 1 (.t 111), none⟩ ::
    []))
  (.ret)
def c24_19 : HCode :=
  .seq (.region none (⟨some 46, .mv 0 (.t 10), none⟩ ::
    ⟨some 47, .mv 0 (.t 2), none⟩ ::
    ⟨some 48, .callv (.t 46) [(.t 47)], none⟩ ::
    ⟨some 12, .mv 0 (.t 48), none⟩ ::
    []))
  (.seq (.block 0 (.loop (c24_17)))
  (c24_18))
def c24_20 : HCode :=
  .seq (.region none (⟨some 44, .mv 0 (.t 2), none⟩ ::
    ⟨some 45, .bsl 1 1 [(.t 44)], none⟩ ::
    ⟨some 11, .mv 1 (.t 45), none⟩ ::
    []))
  (c24_19)
def c24_21 : HCode :=
  .seq (.region none (⟨some 43, .mkfn 34 [(.t 3), (.t 8), (.t 4), (.t 9)], none⟩ ::
    ⟨some 10, .mv 0 (.t 43), none⟩ ::
    []))
  (c24_20)
def c24_22 : HCode :=
  .seq (.region none (⟨some 38, .load false 1 (.t 3), none⟩ ::
    ⟨some 39, .load false 1 (.t 4), none⟩ ::
    ⟨some 40, .call 33 [(.t 38), (.t 39)], none⟩ ::
    ⟨some 37, .mv 0 (.t 40), none⟩ ::
    ⟨some 41, .ext (.t 37) 0, none⟩ ::
    ⟨some 42, .ext (.t 37) 1, none⟩ ::
    ⟨some 8, .newz [.nils], none⟩ ::
    ⟨some 9, .newz [.nils], none⟩ ::
    ⟨none, .store false 1 (.t 8) (.t 41), none⟩ ::
    ⟨none, .store false 1 (.t 9) (.t 42), none⟩ ::
    []))
  (c24_21)
def c24_23 : HCode :=
  .seq (.seq (.region none (⟨some 22, .mv 0 (.t 2), none⟩ ::
    ⟨some 23, .bin .lss (.t 22) (.c (.int .i64 0)), none⟩ ::
    ⟨some 24, .mv 0 (.t 23), none⟩ ::
    ⟨some 25, .mv 0 (.t 2), some (2, false)⟩ ::
    ⟨some 26, .mv 1 (.t 7), some (2, false)⟩ ::
    ⟨some 27, .len (.t 26), some (2, false)⟩ ::
    ⟨some 28, .bin .geq (.t 25) (.t 27), some (2, false)⟩ ::
    ⟨some 29, .pick (.t 24) (.c (.bool true)) (.t 28), none⟩ ::
    ⟨some 30, .mv 0 (.t 29), none⟩ ::
    ⟨some 31, .mv 1 (.t 7), some (8, false)⟩ ::
    ⟨some 32, .mv 0 (.t 2), some (8, false)⟩ ::
    ⟨some 33, .iaddr 1 (.t 31) (.t 32), some (8, false)⟩ ::
    ⟨some 34, .load false 1 (.t 33), some (8, false)⟩ ::
    ⟨some 35, .bin .geq (.t 34) (.c (.int .i64 0)), some (8, false)⟩ ::
    ⟨some 36, .pick (.t 30) (.c (.bool true)) (.t 35), none⟩ ::
    []))
  (.cond (.t 36) (c24_1) (.skip)))
  (c24_22)
def c24_24 : HCode :=
  .seq (.region none (⟨some 19, .load false 1 (.t 3), none⟩ ::
    ⟨some 20, .load false 1 (.t 4), none⟩ ::
    ⟨some 21, .call 17 [(.t 19), (.t 20)], none⟩ ::
    ⟨some 7, .mv 1 (.t 21), none⟩ ::
    []))
  (c24_23)
def c24 : HCode :=
  .seq (.region none (⟨some 3, .newv 1 (.t 0), none⟩ ::
    ⟨some 4, .newv 1 (.t 1), none⟩ ::
    ⟨some 6, .mv 1 (.c (.nils)), none⟩ ::
    []))
  (c24_24)
theorem fc24 : funCode Try.prog 24 = some (c24, [6], 112) := by kernel_rfl

def c25_1 : HCode :=
  .seq (.region none (⟨some 6, .mv 1 (.c (.nils)), none⟩ ::
    []))
  (.ret)
def c25_2 : HCode :=
  .seq (.region none (⟨some 39, .mv 1 (.t 8), none⟩ ::
    ⟨some 6, .mv 1 (.t 39), none⟩ ::
    []))
  (.ret)
def c25_3 : HCode :=
  .seq (.region none (⟨some 36, .mv 1 (.t 8), none⟩ ::
    ⟨some 37, .len (.t 36), none⟩ ::
    ⟨some 38, .bin .gtr (.t 37) (.c (.int .i64 0)), none⟩ ::
    []))
  (.cond (.t 38) (c25_2) (.skip))
def c25_4 : HCode :=
  .region none (⟨some 28, .mv 0 (.t 7), none⟩ ::
    ⟨some 29, .bin .add (.t 28) (.c (.int .i64 1)), none⟩ ::
    ⟨some 7, .mv 0 (.t 29), none⟩ ::
    [])
def c25_5 : HCode :=
  .seq (.block 1 (.seq (.region none (⟨some 30, .mv 1 (.t 0), none⟩ ::
      ⟨some 31, .mv 1 (.t 1), none⟩ ::
      ⟨some 32, .mv 0 (.t 2), none⟩ ::
      ⟨some 33, .bsl 1 1 [(.t 32)], none⟩ ::
      ⟨some 34, .mv 0 (.t 7), none⟩ ::
      ⟨some 35, .call 35 [(.t 30), (.t 31), (.t 33), (.t 34)], none⟩ ::
      ⟨some 8, .mv 1 (.t 35), none⟩ ::
      []))
    (c25_3)))
  (c25_4)
def c25_6 : HCode :=
  .seq (.seq (.region none (⟨some 23, .mv 0 (.t 7), none⟩ ::
    ⟨some 24, .mv 1 (.t 0), none⟩ ::
    ⟨some 25, .len (.t 24), none⟩ ::
    ⟨some 26, .bin .add (.t 25) (.c (.int .i64 1)), none⟩ ::
    ⟨some 27, .bin .leq (.t 23) (.t 26), none⟩ ::
    []))
  (.cond (.t 27) (.skip) (.exit 0)))
  (c25_5)
def c25_7 : HCode :=
  .seq (.region none (⟨some 6, .mv 1 (.c (.nils)), none⟩ ::
    []))
  (.ret)
def c25_8 : HCode :=
  .seq (.seq (.region none (⟨some 7, .mv 0 (.c (.int .i64 1)), none⟩ ::
    []))
  (.block 0 (.loop (c25_6))))
  (c25_7)
def c25_9 : HCode :=
  .seq (.seq (.region none (⟨some 9, .mv 1 (.t 0), none⟩ ::
    ⟨some 10, .mv 1 (.t 1), none⟩ ::
    ⟨some 11, .call 15 [(.t 9), (.t 10)], none⟩ ::
    ⟨some 12, .un .not (.t 11), none⟩ ::
    ⟨some 13, .mv 0 (.t 12), none⟩ ::
    ⟨some 14, .mv 0 (.t 2), some (4, false)⟩ ::
    ⟨some 15, .bin .lss (.t 14) (.c (.int .i64 0)), some (4, false)⟩ ::
    ⟨some 16, .pick (.t 13) (.c (.bool true)) (.t 15), none⟩ ::
    ⟨some 17, .mv 0 (.t 16), none⟩ ::
    ⟨some 18, .mv 0 (.t 2), some (8, false)⟩ ::
    ⟨some 19, .mv 1 (.t 0), some (8, false)⟩ ::
    ⟨some 20, .len (.t 19), some (8, false)⟩ ::
    ⟨some 21, .bin .geq (.t 18) (.t 20), some (8, false)⟩ ::
    ⟨some 22, .pick (.t 17) (.c (.bool true)) (.t 21), none⟩ ::
    []))
  (.cond (.t 22) (c25_1) (.skip)))
  (c25_8)
def c25 : HCode :=
  .seq (.region none (⟨some 6, .mv 1 (.c (.nils)), none⟩ ::
    []))
  (c25_9)
theorem fc25 : funCode Try.prog 25 = some (c25, [6], 40) := by kernel_rfl

def c27_1 : HCode :=
  .seq (.region none (⟨some 4, .mv 1 (.c (.nils)), none⟩ ::
    []))
  (.ret)
def c27_2 : HCode :=
  .region none (⟨some 44, .mv 0 (.t 8), none⟩ ::
    ⟨none, .store true 1 (.t 7) (.t 44), none⟩ ::
    [])
def c27_3 : HCode :=
  .seq (.region none (⟨some 30, .mv 0 (.t 9), none⟩ ::
    ⟨some 31, .bin .gtr (.t 30) (.c (.int .i64 0)), none⟩ ::
    ⟨some 32, .mv 0 (.t 31), none⟩ ::
    ⟨some 33, .load false 1 (.t 7), some (2, true)⟩ ::
    ⟨some 34, .bin .lss (.t 33) (.c (.int .i64 0)), some (2, true)⟩ ::
    ⟨some 35, .mv 0 (.t 34), some (2, true)⟩ ::
    ⟨some 36, .mv 0 (.t 9), some (5, false)⟩ ::
    ⟨some 37, .load false 1 (.t 6), some (5, false)⟩ ::
    ⟨some 38, .load false 1 (.t 7), some (5, false)⟩ ::
    ⟨some 39, .iaddr 1 (.t 37) (.t 38), some (5, false)⟩ ::
    ⟨some 40, .load false 1 (.t 39), some (5, false)⟩ ::
    ⟨some 41, .bin .lss (.t 36) (.t 40), some (5, false)⟩ ::
    ⟨some 42, .pick (.t 35) (.c (.bool true)) (.t 41), some (2, true)⟩ ::
    ⟨some 43, .pick (.t 32) (.t 42) (.c (.bool false)), none⟩ ::
    []))
  (.cond (.t 43) (c27_2) (.skip))
def c27_4 : HCode :=
  .region none (⟨some 45, .bin .add (.t 25) (.c (.int .i64 1)), none⟩ ::
    ⟨some 25, .mv 0 (.t 45), none⟩ ::
    [])
def c27_5 : HCode :=
  .seq (.block 1 (.seq (.region none (⟨some 27, .mv 0 (.t 25), none⟩ ::
      ⟨some 28, .iaddr 1 (.t 23) (.t 25), none⟩ ::
      ⟨some 29, .load false 1 (.t 28), none⟩ ::
      ⟨some 8, .mv 0 (.t 27), none⟩ ::
      ⟨some 9, .mv 0 (.t 29), none⟩ ::
      []))
    (c27_3)))
  (c27_4)
def c27_6 : HCode :=
  .seq (.region none (⟨some 26, .bin .lss (.t 25) (.t 24), none⟩ ::
    []))
  (.seq (.cond (.t 26) (.skip) (.exit 0))
  (c27_5))
def c27_7 : HCode :=
  .seq (.region none (⟨some 4, .mv 1 (.c (.nils)), none⟩ ::
    []))
  (.ret)
def c27_8 : HCode :=
  .region (some [0, 0, 0, 6, 14, 30, 63, 127]) (⟨some 69, .load false 1 (.t 10), none⟩ ::
    ⟨some 70, .mv 1 (.t 11), none⟩ ::
    ⟨some 71, .mv 0 (.t 12), none⟩ ::
    ⟨some 72, .iaddr 1 (.t 70) (.t 71), none⟩ ::
    ⟨some 73, .load false 1 (.t 72), none⟩ ::
    ⟨some 74, .bsl 1 1 [(.t 73)], none⟩ ::
    ⟨some 75, .app true 1 8 (.t 69) (.t 74), none⟩ ::
    ⟨none, .store false 1 (.t 10) (.t 75), none⟩ ::
    [])
def c27_9 : HCode :=
  .seq (.region none (⟨some 66, .mv 1 (.t 11), none⟩ ::
    ⟨some 67, .mkfn 37 [(.t 3), (.t 5), (.t 7), (.t 6), (.t 10)], none⟩ ::
    ⟨some 68, .call 36 [(.t 66), (.t 67)], none⟩ ::
    ⟨some 12, .mv 0 (.t 68), none⟩ ::
    []))
  (c27_8)
def c27_10 : HCode :=
  .block 3 (.seq (.region none (⟨some 57, .mv 1 (.t 0), none⟩ ::
      ⟨some 58, .load false 1 (.t 10), none⟩ ::
      ⟨some 59, .load false 1 (.t 10), none⟩ ::
      ⟨some 60, .len (.t 59), none⟩ ::
      ⟨some 61, .bin .sub (.t 60) (.c (.int .i64 1)), none⟩ ::
      ⟨some 62, .iaddr 1 (.t 58) (.t 61), none⟩ ::
      ⟨some 63, .load false 1 (.t 62), none⟩ ::
      ⟨some 64, .iaddr 1 (.t 57) (.t 63), none⟩ ::
      ⟨some 65, .load false 1 (.t 64), none⟩ ::
      ⟨some 11, .mv 1 (.t 65), none⟩ ::
      []))
    (c27_9))
def c27_11 : HCode :=
  .seq (.seq (.region (some [0, 1, 0, 0, 12, 28, 63]) (⟨some 50, .load false 1 (.t 10), none⟩ ::
    ⟨some 51, .len (.t 50), none⟩ ::
    ⟨some 52, .load false 1 (.t 6), none⟩ ::
    ⟨some 53, .load false 1 (.t 7), none⟩ ::
    ⟨some 54, .iaddr 1 (.t 52) (.t 53), none⟩ ::
    ⟨some 55, .load false 1 (.t 54), none⟩ ::
    ⟨some 56, .bin .lss (.t 51) (.t 55), none⟩ ::
    []))
  (.cond (.t 56) (.skip) (.exit 2)))
  (c27_10)
def c27_12 : HCode :=
  .seq (.region none (⟨some 76, .load false 1 (.t 10), none⟩ ::
    ⟨some 4, .mv 1 (.t 76), none⟩ ::
    []))
  (.ret)
def c27_13 : HCode :=
  .seq (.region none (⟨some 48, .load false 1 (.t 7), none⟩ ::
    ⟨some 49, .bsl 1 1 [(.t 48)], none⟩ ::
    ⟨some 10, .newz [.nils], none⟩ ::
    ⟨none, .store false 1 (.t 10) (.t 49), none⟩ ::
    []))
  (.seq (.block 2 (.loop (c27_11)))
  (c27_12))
def c27_14 : HCode :=
  .seq (.seq (.region none (⟨some 46, .load false 1 (.t 7), none⟩ ::
    ⟨some 47, .bin .lss (.t 46) (.c (.int .i64 0)), none⟩ ::
    []))
  (.cond (.t 47) (c27_7) (.skip)))
  (c27_13)
def c27_15 : HCode :=
  .seq (.seq (.region none (⟨some 23, .load false 1 (.t 6), none⟩ ::
    ⟨some 24, .len (.t 23), none⟩ ::
    ⟨some 25, .mv 0 (.c (.int .i64 0)), none⟩ ::
    []))
  (.block 0 (.loop (c27_6))))
  (c27_14)
def c27_16 : HCode :=
  .seq (.region none (⟨some 7, .newz [.int .i64 0], none⟩ ::
    ⟨none, .store true 1 (.t 7) (.c (.int .i64 (-1))), none⟩ ::
    []))
  (c27_15)
def c27_17 : HCode :=
  .seq (.region none (⟨some 18, .mv 1 (.t 0), none⟩ ::
    ⟨some 19, .load false 1 (.t 3), none⟩ ::
    ⟨some 20, .call 33 [(.t 18), (.t 19)], none⟩ ::
    ⟨some 17, .mv 0 (.t 20), none⟩ ::
    ⟨some 21, .ext (.t 17) 0, none⟩ ::
    ⟨some 22, .ext (.t 17) 1, none⟩ ::
    ⟨some 5, .newz [.nils], none⟩ ::
    ⟨some 6, .newz [.nils], none⟩ ::
    ⟨none, .store false 1 (.t 5) (.t 21), none⟩ ::
    ⟨none, .store false 1 (.t 6) (.t 22), none⟩ ::
    []))
  (c27_16)
def c27_18 : HCode :=
  .seq (.seq (.region none (⟨some 13, .mv 1 (.t 0), none⟩ ::
    ⟨some 14, .load false 1 (.t 3), none⟩ ::
    ⟨some 15, .call 14 [(.t 13), (.t 14)], none⟩ ::
    ⟨some 16, .un .not (.t 15), none⟩ ::
    []))
  (.cond (.t 16) (c27_1) (.skip)))
  (c27_17)
def c27 : HCode :=
  .seq (.region none (⟨some 3, .newv 1 (.t 1), none⟩ ::
    ⟨some 4, .mv 1 (.c (.nils)), none⟩ ::
    []))
  (c27_18)
theorem fc27 : funCode Try.prog 27 = some (c27, [4], 77) := by kernel_rfl

def c29_1 : HCode :=
  .seq (.region none (⟨some 4, .mv 0 (.c (.bool true)), none⟩ ::
    []))
  (.ret)
def c29_2 : HCode :=
  .region none (⟨some 10, .mv 0 (.t 5), none⟩ ::
    ⟨some 11, .bin .add (.t 10) (.c (.int .i64 1)), none⟩ ::
    ⟨some 5, .mv 0 (.t 11), none⟩ ::
    [])
def c29_3 : HCode :=
  .seq (.block 1 (.seq (.region none (⟨some 12, .mv 1 (.t 0), none⟩ ::
      ⟨some 13, .mv 0 (.t 5), none⟩ ::
      ⟨some 14, .iaddr 1 (.t 12) (.t 13), none⟩ ::
      ⟨some 15, .load false 1 (.t 14), none⟩ ::
      ⟨some 16, .mv 0 (.t 1), none⟩ ::
      ⟨some 17, .bin .eql (.t 15) (.t 16), none⟩ ::
      []))
    (.cond (.t 17) (c29_1) (.skip))))
  (c29_2)
def c29_4 : HCode :=
  .seq (.seq (.region none (⟨some 6, .mv 0 (.t 5), none⟩ ::
    ⟨some 7, .mv 1 (.t 0), none⟩ ::
    ⟨some 8, .len (.t 7), none⟩ ::
    ⟨some 9, .bin .lss (.t 6) (.t 8), none⟩ ::
    []))
  (.cond (.t 9) (.skip) (.exit 0)))
  (c29_3)
def c29_5 : HCode :=
  .seq (.region none (⟨some 4, .mv 0 (.c (.bool false)), none⟩ ::
    []))
  (.ret)
def c29_6 : HCode :=
  .seq (.seq (.region none (⟨some 5, .mv 0 (.c (.int .i64 0)), none⟩ ::
    []))
  (.block 0 (.loop (c29_4))))
  (c29_5)
def c29 : HCode :=
  .seq (.region none (⟨some 4, .mv 0 (.c (.bool false)), none⟩ ::
    []))
  (c29_6)
theorem fc29 : funCode Try.prog 29 = some (c29, [4], 18) := by kernel_rfl

def c30_1 : HCode :=
  .region none (⟨some 6, .mv 0 (.c (.bool true)), none⟩ ::
    [])
def c30_2 : HCode :=
  .seq (.region none (⟨some 24, .mv 1 (.t 5), none⟩ ::
    ⟨some 25, .mv 0 (.t 1), none⟩ ::
    ⟨some 26, .bsl 1 1 [(.t 25)], none⟩ ::
    ⟨some 27, .app true 1 8 (.t 24) (.t 26), none⟩ ::
    ⟨some 5, .mv 1 (.t 27), none⟩ ::
    []))
  (c30_1)
def c30_3 : HCode :=
  .region none (⟨some 34, .mv 1 (.t 5), none⟩ ::
    ⟨some 35, .mv 1 (.t 0), none⟩ ::
    ⟨some 36, .mv 0 (.t 7), none⟩ ::
    ⟨some 37, .iaddr 1 (.t 35) (.t 36), none⟩ ::
    ⟨some 38, .load false 1 (.t 37), none⟩ ::
    ⟨some 39, .bsl 1 1 [(.t 38)], none⟩ ::
    ⟨some 40, .app true 1 8 (.t 34) (.t 39), none⟩ ::
    ⟨some 5, .mv 1 (.t 40), none⟩ ::
    [])
def c30_4 : HCode :=
  .seq (.region none (⟨some 28, .mv 1 (.t 0), none⟩ ::
    ⟨some 29, .mv 0 (.t 7), none⟩ ::
    ⟨some 30, .iaddr 1 (.t 28) (.t 29), none⟩ ::
    ⟨some 31, .load false 1 (.t 30), none⟩ ::
    ⟨some 32, .mv 0 (.t 1), none⟩ ::
    ⟨some 33, .bin .neq (.t 31) (.t 32), none⟩ ::
    []))
  (.cond (.t 33) (c30_3) (.skip))
def c30_5 : HCode :=
  .region none (⟨some 12, .mv 0 (.t 7), none⟩ ::
    ⟨some 13, .bin .add (.t 12) (.c (.int .i64 1)), none⟩ ::
    ⟨some 7, .mv 0 (.t 13), none⟩ ::
    [])
def c30_6 : HCode :=
  .seq (.block 1 (.seq (.seq (.region none (⟨some 14, .mv 0 (.t 6), none⟩ ::
      ⟨some 15, .un .not (.t 14), none⟩ ::
      ⟨some 16, .mv 0 (.t 15), none⟩ ::
      ⟨some 17, .mv 1 (.t 0), some (2, true)⟩ ::
      ⟨some 18, .mv 0 (.t 7), some (2, true)⟩ ::
      ⟨some 19, .iaddr 1 (.t 17) (.t 18), some (2, true)⟩ ::
      ⟨some 20, .load false 1 (.t 19), some (2, true)⟩ ::
      ⟨some 21, .mv 0 (.t 1), some (2, true)⟩ ::
      ⟨some 22, .bin .geq (.t 20) (.t 21), some (2, true)⟩ ::
      ⟨some 23, .pick (.t 16) (.t 22) (.c (.bool false)), none⟩ ::
      []))
    (.cond (.t 23) (c30_2) (.skip)))
    (c30_4)))
  (c30_5)
def c30_7 : HCode :=
  .seq (.seq (.region none (⟨some 8, .mv 0 (.t 7), none⟩ ::
    ⟨some 9, .mv 1 (.t 0), none⟩ ::
    ⟨some 10, .len (.t 9), none⟩ ::
    ⟨some 11, .bin .lss (.t 8) (.t 10), none⟩ ::
    []))
  (.cond (.t 11) (.skip) (.exit 0)))
  (c30_6)
def c30_8 : HCode :=
  .region none (⟨some 43, .mv 1 (.t 5), none⟩ ::
    ⟨some 44, .mv 0 (.t 1), none⟩ ::
    ⟨some 45, .bsl 1 1 [(.t 44)], none⟩ ::
    ⟨some 46, .app true 1 8 (.t 43) (.t 45), none⟩ ::
    ⟨some 5, .mv 1 (.t 46), none⟩ ::
    [])
def c30_9 : HCode :=
  .seq (.region none (⟨some 47, .mv 1 (.t 5), none⟩ ::
    ⟨some 4, .mv 1 (.t 47), none⟩ ::
    []))
  (.ret)
def c30_10 : HCode :=
  .seq (.seq (.region none (⟨some 41, .mv 0 (.t 6), none⟩ ::
    ⟨some 42, .un .not (.t 41), none⟩ ::
    []))
  (.cond (.t 42) (c30_8) (.skip)))
  (c30_9)
def c30_11 : HCode :=
  .seq (.seq (.region none (⟨some 7, .mv 0 (.c (.int .i64 0)), none⟩ ::
    []))
  (.block 0 (.loop (c30_7))))
  (c30_10)
def c30_12 : HCode :=
  .seq (.region none (⟨some 6, .mv 0 (.c (.bool false)), none⟩ ::
    []))
  (c30_11)
def c30_13 : HCode :=
  .seq (.region none (⟨some 5, .mv 1 (.c (.nils)), none⟩ ::
    []))
  (c30_12)
def c30 : HCode :=
  .seq (.region none (⟨some 4, .mv 1 (.c (.nils)), none⟩ ::
    []))
  (c30_13)
theorem fc30 : funCode Try.prog 30 = some (c30, [4], 48) := by kernel_rfl

def c32_1 : HCode :=
  .seq (.region none (⟨some 4, .mv 0 (.c (.int .i64 0)), none⟩ ::
    []))
  (.ret)
def c32_2 : HCode :=
  .seq (.region (some [0, 0, 0, 4, 14, 31, 63, 127, 0, 0, 512, 1792, 3840, 8191, 16383]) (⟨some 8, .mv 1 (.t 0), none⟩ ::
    ⟨some 9, .mv 0 (.t 1), none⟩ ::
    ⟨some 10, .mv 1 (.t 0), none⟩ ::
    ⟨some 11, .len (.t 10), none⟩ ::
    ⟨some 12, .bin .rem (.t 9) (.t 11), none⟩ ::
    ⟨some 13, .iaddr 1 (.t 8) (.t 12), none⟩ ::
    ⟨some 14, .load false 1 (.t 13), none⟩ ::
    ⟨some 15, .bin .rem (.t 14) (.c (.int .i64 1048576)), none⟩ ::
    ⟨some 16, .mv 0 (.t 1), none⟩ ::
    ⟨some 17, .mv 1 (.t 0), none⟩ ::
    ⟨some 18, .len (.t 17), none⟩ ::
    ⟨some 19, .bin .quo (.t 16) (.t 18), none⟩ ::
    ⟨some 20, .bin .mul (.c (.int .i64 7)) (.t 19), none⟩ ::
    ⟨some 21, .bin .add (.t 15) (.t 20), none⟩ ::
    ⟨some 4, .mv 0 (.t 21), none⟩ ::
    []))
  (.ret)
def c32_3 : HCode :=
  .seq (.seq (.region none (⟨some 5, .mv 1 (.t 0), none⟩ ::
    ⟨some 6, .len (.t 5), none⟩ ::
    ⟨some 7, .bin .eql (.t 6) (.c (.int .i64 0)), none⟩ ::
    []))
  (.cond (.t 7) (c32_1) (.skip)))
  (c32_2)
def c32 : HCode :=
  .seq (.region none (⟨some 4, .mv 0 (.c (.int .i64 0)), none⟩ ::
    []))
  (c32_3)
theorem fc32 : funCode Try.prog 32 = some (c32, [4], 22) := by kernel_rfl

def c33_1 : HCode :=
  .region none (⟨some 18, .mv 1 (.t 6), none⟩ ::
    ⟨some 19, .mv 1 (.t 0), none⟩ ::
    ⟨some 20, .mv 1 (.t 1), none⟩ ::
    ⟨some 21, .mv 0 (.t 7), none⟩ ::
    ⟨some 22, .call 43 [(.t 19), (.t 20), (.t 21)], none⟩ ::
    ⟨some 23, .bsl 1 1 [(.t 22)], none⟩ ::
    ⟨some 24, .app false 1 24 (.t 18) (.t 23), none⟩ ::
    ⟨some 6, .mv 1 (.t 24), none⟩ ::
    [])
def c33_2 : HCode :=
  .region none (⟨some 25, .bin .add (.t 15) (.c (.int .i64 1)), none⟩ ::
    ⟨some 15, .mv 0 (.t 25), none⟩ ::
    [])
def c33_3 : HCode :=
  .seq (.block 1 (.seq (.region none (⟨some 17, .mv 0 (.t 15), none⟩ ::
      ⟨some 7, .mv 0 (.t 17), none⟩ ::
      []))
    (c33_1)))
  (c33_2)
def c33_4 : HCode :=
  .seq (.region none (⟨some 16, .bin .lss (.t 15) (.t 14), none⟩ ::
    []))
  (.seq (.cond (.t 16) (.skip) (.exit 0))
  (c33_3))
def c33_5 : HCode :=
  .region none (⟨some 82, .mv 1 (.t 8), none⟩ ::
    ⟨some 83, .mv 0 (.t 12), none⟩ ::
    ⟨some 84, .mv 1 (.t 6), none⟩ ::
    ⟨some 85, .mv 0 (.t 12), none⟩ ::
    ⟨some 86, .iaddr 1 (.t 84) (.t 85), none⟩ ::
    ⟨some 87, .load false 1 (.t 86), none⟩ ::
    ⟨some 88, .mv 0 (.t 9), none⟩ ::
    ⟨some 89, .iaddr 1 (.t 87) (.t 88), none⟩ ::
    ⟨some 90, .load false 1 (.t 89), none⟩ ::
    ⟨some 91, .bin .add (.t 90) (.c (.int .i64 1)), none⟩ ::
    ⟨some 92, .iaddr 1 (.t 82) (.t 83), none⟩ ::
    ⟨none, .store true 1 (.t 92) (.t 91), none⟩ ::
    [])
def c33_6 : HCode :=
  .seq (.region (some [0, 0, 3, 7, 15, 31, 63, 63, 255, 511, 63, 2047, 4095, 8191, 63, 63, 49215, 114751, 262143, 524287]) (⟨some 62, .mv 1 (.t 8), none⟩ ::
    ⟨some 63, .mv 0 (.t 12), none⟩ ::
    ⟨some 64, .iaddr 1 (.t 62) (.t 63), none⟩ ::
    ⟨some 65, .load false 1 (.t 64), none⟩ ::
    ⟨some 66, .bin .eql (.t 65) (.c (.int .i64 0)), none⟩ ::
    ⟨some 67, .mv 0 (.t 66), none⟩ ::
    ⟨some 68, .mv 1 (.t 6), some (5, false)⟩ ::
    ⟨some 69, .mv 0 (.t 12), some (5, false)⟩ ::
    ⟨some 70, .iaddr 1 (.t 68) (.t 69), some (5, false)⟩ ::
    ⟨some 71, .load false 1 (.t 70), some (5, false)⟩ ::
    ⟨some 72, .mv 0 (.t 9), some (5, false)⟩ ::
    ⟨some 73, .iaddr 1 (.t 71) (.t 72), some (5, false)⟩ ::
    ⟨some 74, .load false 1 (.t 73), some (5, false)⟩ ::
    ⟨some 75, .bin .add (.t 74) (.c (.int .i64 1)), some (5, false)⟩ ::
    ⟨some 76, .mv 1 (.t 8), some (5, false)⟩ ::
    ⟨some 77, .mv 0 (.t 12), some (5, false)⟩ ::
    ⟨some 78, .iaddr 1 (.t 76) (.t 77), some (5, false)⟩ ::
    ⟨some 79, .load false 1 (.t 78), some (5, false)⟩ ::
    ⟨some 80, .bin .lss (.t 75) (.t 79), some (5, false)⟩ ::
    ⟨some 81, .pick (.t 67) (.c (.bool true)) (.t 80), none⟩ ::
    []))
  (.cond (.t 81) (c33_5) (.skip))
def c33_7 : HCode :=
  .seq (.seq (.region none (⟨some 42, .mv 1 (.t 1), none⟩ ::
    ⟨some 43, .mv 0 (.t 9), none⟩ ::
    ⟨some 44, .iaddr 1 (.t 42) (.t 43), none⟩ ::
    ⟨some 45, .load false 1 (.t 44), none⟩ ::
    ⟨some 46, .mv 0 (.t 45), none⟩ ::
    ⟨some 47, .mv 1 (.t 1), some (4, false)⟩ ::
    ⟨some 48, .mv 0 (.t 12), some (4, false)⟩ ::
    ⟨some 49, .iaddr 1 (.t 47) (.t 48), some (4, false)⟩ ::
    ⟨some 50, .load false 1 (.t 49), some (4, false)⟩ ::
    ⟨some 51, .pick (.t 46) (.c (.bool true)) (.t 50), none⟩ ::
    ⟨some 52, .mv 0 (.t 51), none⟩ ::
    ⟨some 53, .mv 1 (.t 6), some (10, false)⟩ ::
    ⟨some 54, .mv 0 (.t 12), some (10, false)⟩ ::
    ⟨some 55, .iaddr 1 (.t 53) (.t 54), some (10, false)⟩ ::
    ⟨some 56, .load false 1 (.t 55), some (10, false)⟩ ::
    ⟨some 57, .mv 0 (.t 9), some (10, false)⟩ ::
    ⟨some 58, .iaddr 1 (.t 56) (.t 57), some (10, false)⟩ ::
    ⟨some 59, .load false 1 (.t 58), some (10, false)⟩ ::
    ⟨some 60, .bin .lss (.t 59) (.c (.int .i64 0)), some (10, false)⟩ ::
    ⟨some 61, .pick (.t 52) (.c (.bool true)) (.t 60), none⟩ ::
    []))
  (.cond (.t 61) (.exit 5) (.skip)))
  (c33_6)
def c33_8 : HCode :=
  .region none (⟨some 93, .bin .add (.t 38) (.c (.int .i64 1)), none⟩ ::
    ⟨some 38, .mv 0 (.t 93), none⟩ ::
    [])
def c33_9 : HCode :=
  .seq (.block 5 (.seq (.region none (⟨some 40, .iaddr 1 (.t 36) (.t 38), none⟩ ::
      ⟨some 41, .load false 1 (.t 40), none⟩ ::
      ⟨some 12, .mv 0 (.t 41), none⟩ ::
      []))
    (c33_7)))
  (c33_8)
def c33_10 : HCode :=
  .seq (.region none (⟨some 39, .bin .lss (.t 38) (.t 37), none⟩ ::
    []))
  (.seq (.cond (.t 39) (.skip) (.exit 4))
  (c33_9))
def c33_11 : HCode :=
  .seq (.region none (⟨some 36, .mv 1 (.t 10), none⟩ ::
    ⟨some 37, .len (.t 36), none⟩ ::
    ⟨some 38, .mv 0 (.c (.int .i64 0)), none⟩ ::
    []))
  (.block 4 (.loop (c33_10)))
def c33_12 : HCode :=
  .region none (⟨some 94, .bin .add (.t 31) (.c (.int .i64 1)), none⟩ ::
    ⟨some 31, .mv 0 (.t 94), none⟩ ::
    [])
def c33_13 : HCode :=
  .seq (.block 3 (.seq (.region none (⟨some 33, .mv 0 (.t 31), none⟩ ::
      ⟨some 34, .iaddr 1 (.t 29) (.t 31), none⟩ ::
      ⟨some 35, .load false 1 (.t 34), none⟩ ::
      ⟨some 9, .mv 0 (.t 33), none⟩ ::
      ⟨some 10, .mv 1 (.t 35), none⟩ ::
      []))
    (c33_11)))
  (c33_12)
def c33_14 : HCode :=
  .seq (.region none (⟨some 32, .bin .lss (.t 31) (.t 30), none⟩ ::
    []))
  (.seq (.cond (.t 32) (.skip) (.exit 2))
  (c33_13))
def c33_15 : HCode :=
  .seq (.region none (⟨some 95, .mv 1 (.t 6), none⟩ ::
    ⟨some 96, .mv 1 (.t 8), none⟩ ::
    ⟨some 4, .mv 1 (.t 95), none⟩ ::
    ⟨some 5, .mv 1 (.t 96), none⟩ ::
    []))
  (.ret)
def c33_16 : HCode :=
  .seq (.seq (.region none (⟨some 29, .mv 1 (.t 0), none⟩ ::
    ⟨some 30, .len (.t 29), none⟩ ::
    ⟨some 31, .mv 0 (.c (.int .i64 0)), none⟩ ::
    []))
  (.block 2 (.loop (c33_14))))
  (c33_15)
def c33_17 : HCode :=
  .seq (.region none (⟨some 26, .mv 1 (.t 0), none⟩ ::
    ⟨some 27, .len (.t 26), none⟩ ::
    ⟨some 28, .mksl 1 8 [.int .i64 0] (.t 27), none⟩ ::
    ⟨some 8, .mv 1 (.t 28), none⟩ ::
    []))
  (c33_16)
def c33_18 : HCode :=
  .seq (.seq (.region none (⟨some 13, .mv 1 (.t 0), none⟩ ::
    ⟨some 14, .len (.t 13), none⟩ ::
    ⟨some 15, .mv 0 (.c (.int .i64 0)), none⟩ ::
    []))
  (.block 0 (.loop (c33_4))))
  (c33_17)
def c33_19 : HCode :=
  .seq (.region none (⟨some 6, .mv 1 (.c (.nils)), none⟩ ::
    []))
  (c33_18)
def c33 : HCode :=
  .seq (.region none (⟨some 4, .mv 1 (.c (.nils)), none⟩ ::
    ⟨some 5, .mv 1 (.c (.nils)), none⟩ ::
    []))
  (c33_19)
theorem fc33 : funCode Try.prog 33 = some (c33, [4, 5], 97) := by kernel_rfl

def c34_1 : HCode :=
  .region none (⟨some 38, .mv 0 (.t 7), none⟩ ::
    ⟨some 39, .mv 0 (.t 9), none⟩ ::
    ⟨some 40, .load false 1 (.t 4), none⟩ ::
    ⟨some 41, .mv 0 (.t 8), none⟩ ::
    ⟨some 42, .iaddr 1 (.t 40) (.t 41), none⟩ ::
    ⟨some 43, .load false 1 (.t 42), none⟩ ::
    ⟨some 44, .bin .add (.t 39) (.t 43), none⟩ ::
    ⟨some 45, .mm false (.t 38) (.t 44), none⟩ ::
    ⟨some 7, .mv 0 (.t 45), none⟩ ::
    [])
def c34_2 : HCode :=
  .seq (.region none (⟨some 23, .mv 0 (.t 9), none⟩ ::
    ⟨some 24, .bin .geq (.t 23) (.c (.int .i64 0)), none⟩ ::
    ⟨some 25, .mv 0 (.t 24), none⟩ ::
    ⟨some 26, .load false 1 (.t 3), some (2, true)⟩ ::
    ⟨some 27, .mv 0 (.t 8), some (2, true)⟩ ::
    ⟨some 28, .iaddr 1 (.t 26) (.t 27), some (2, true)⟩ ::
    ⟨some 29, .load false 1 (.t 28), some (2, true)⟩ ::
    ⟨some 30, .mv 0 (.t 29), some (2, true)⟩ ::
    ⟨some 31, .load false 1 (.t 4), some (7, false)⟩ ::
    ⟨some 32, .mv 0 (.t 8), some (7, false)⟩ ::
    ⟨some 33, .iaddr 1 (.t 31) (.t 32), some (7, false)⟩ ::
    ⟨some 34, .load false 1 (.t 33), some (7, false)⟩ ::
    ⟨some 35, .bin .gtr (.t 34) (.c (.int .i64 0)), some (7, false)⟩ ::
    ⟨some 36, .pick (.t 30) (.c (.bool true)) (.t 35), some (2, true)⟩ ::
    ⟨some 37, .pick (.t 25) (.t 36) (.c (.bool false)), none⟩ ::
    []))
  (.cond (.t 37) (c34_1) (.skip))
def c34_3 : HCode :=
  .region none (⟨some 46, .bin .add (.t 18) (.c (.int .i64 1)), none⟩ ::
    ⟨some 18, .mv 0 (.t 46), none⟩ ::
    [])
def c34_4 : HCode :=
  .seq (.block 1 (.seq (.region none (⟨some 20, .mv 0 (.t 18), none⟩ ::
      ⟨some 21, .iaddr 1 (.t 16) (.t 18), none⟩ ::
      ⟨some 22, .load false 1 (.t 21), none⟩ ::
      ⟨some 8, .mv 0 (.t 20), none⟩ ::
      ⟨some 9, .mv 0 (.t 22), none⟩ ::
      []))
    (c34_2)))
  (c34_3)
def c34_5 : HCode :=
  .seq (.region none (⟨some 19, .bin .lss (.t 18) (.t 17), none⟩ ::
    []))
  (.seq (.cond (.t 19) (.skip) (.exit 0))
  (c34_4))
def c34_6 : HCode :=
  .seq (.region none (⟨some 47, .mv 0 (.t 7), none⟩ ::
    ⟨some 6, .mv 0 (.t 47), none⟩ ::
    []))
  (.ret)
def c34_7 : HCode :=
  .seq (.seq (.region none (⟨some 13, .load false 1 (.t 2), none⟩ ::
    ⟨some 14, .mv 0 (.t 0), none⟩ ::
    ⟨some 15, .iaddr 1 (.t 13) (.t 14), none⟩ ::
    ⟨some 16, .load false 1 (.t 15), none⟩ ::
    ⟨some 17, .len (.t 16), none⟩ ::
    ⟨some 18, .mv 0 (.c (.int .i64 0)), none⟩ ::
    []))
  (.block 0 (.loop (c34_5))))
  (c34_6)
def c34_8 : HCode :=
  .seq (.region none (⟨some 10, .load false 1 (.t 1), none⟩ ::
    ⟨some 11, .len (.t 10), none⟩ ::
    ⟨some 12, .bin .mul (.c (.int .i64 2)) (.t 11), none⟩ ::
    ⟨some 7, .mv 0 (.t 12), none⟩ ::
    []))
  (c34_7)
def c34 : HCode :=
  .seq (.region none (⟨some 6, .mv 0 (.c (.int .i64 0)), none⟩ ::
    []))
  (c34_8)
theorem fc34 : funCode Try.prog 34 = some (c34, [6], 48) := by kernel_rfl

def c35_1 : HCode :=
  .seq (.region none (⟨some 35, .mv 1 (.t 2), none⟩ ::
    ⟨some 8, .mv 1 (.t 35), none⟩ ::
    []))
  (.ret)
def c35_2 : HCode :=
  .seq (.region none (⟨some 8, .mv 1 (.c (.nils)), none⟩ ::
    []))
  (.ret)
def c35_3 : HCode :=
  .seq (.seq (.region none (⟨some 31, .mv 1 (.t 2), none⟩ ::
    ⟨some 32, .len (.t 31), none⟩ ::
    ⟨some 33, .mv 0 (.t 3), none⟩ ::
    ⟨some 34, .bin .eql (.t 32) (.t 33), none⟩ ::
    []))
  (.cond (.t 34) (c35_1) (.skip)))
  (c35_2)
def c35_4 : HCode :=
  .seq (.region none (⟨some 8, .mv 1 (.c (.nils)), none⟩ ::
    []))
  (.ret)
def c35_5 : HCode :=
  .seq (.region none (⟨some 68, .mv 1 (.t 11), none⟩ ::
    ⟨some 8, .mv 1 (.t 68), none⟩ ::
    []))
  (.ret)
def c35_6 : HCode :=
  .seq (.region none (⟨some 65, .mv 1 (.t 11), none⟩ ::
    ⟨some 66, .len (.t 65), none⟩ ::
    ⟨some 67, .bin .gtr (.t 66) (.c (.int .i64 0)), none⟩ ::
    []))
  (.cond (.t 67) (c35_5) (.skip))
def c35_7 : HCode :=
  .region none (⟨some 47, .mv 0 (.t 10), none⟩ ::
    ⟨some 48, .bin .add (.t 47) (.c (.int .i64 1)), none⟩ ::
    ⟨some 10, .mv 0 (.t 48), none⟩ ::
    [])
def c35_8 : HCode :=
  .seq (.block 1 (.seq (.region (some [0, 0, 0, 0, 12, 0, 0, 96, 224, 0, 992, 2016, 4064, 8188, 0, 32767, 65535]) (⟨some 49, .mv 1 (.t 0), none⟩ ::
      ⟨some 50, .mv 1 (.t 1), none⟩ ::
      ⟨some 51, .bsl 1 0 [], none⟩ ::
      ⟨some 52, .mv 1 (.t 2), none⟩ ::
      ⟨some 53, .app true 1 8 (.t 51) (.t 52), none⟩ ::
      ⟨some 54, .mv 1 (.t 0), none⟩ ::
      ⟨some 55, .mv 0 (.t 9), none⟩ ::
      ⟨some 56, .iaddr 1 (.t 54) (.t 55), none⟩ ::
      ⟨some 57, .load false 1 (.t 56), none⟩ ::
      ⟨some 58, .mv 0 (.t 10), none⟩ ::
      ⟨some 59, .iaddr 1 (.t 57) (.t 58), none⟩ ::
      ⟨some 60, .load false 1 (.t 59), none⟩ ::
      ⟨some 61, .bsl 1 1 [(.t 60)], none⟩ ::
      ⟨some 62, .app true 1 8 (.t 53) (.t 61), none⟩ ::
      ⟨some 63, .mv 0 (.t 3), none⟩ ::
      ⟨some 64, .call 35 [(.t 49), (.t 50), (.t 62), (.t 63)], none⟩ ::
      ⟨some 11, .mv 1 (.t 64), none⟩ ::
      []))
    (c35_6)))
  (c35_7)
def c35_9 : HCode :=
  .seq (.seq (.region none (⟨some 40, .mv 0 (.t 10), none⟩ ::
    ⟨some 41, .mv 1 (.t 0), none⟩ ::
    ⟨some 42, .mv 0 (.t 9), none⟩ ::
    ⟨some 43, .iaddr 1 (.t 41) (.t 42), none⟩ ::
    ⟨some 44, .load false 1 (.t 43), none⟩ ::
    ⟨some 45, .len (.t 44), none⟩ ::
    ⟨some 46, .bin .lss (.t 40) (.t 45), none⟩ ::
    []))
  (.cond (.t 46) (.skip) (.exit 0)))
  (c35_8)
def c35_10 : HCode :=
  .seq (.region none (⟨some 8, .mv 1 (.c (.nils)), none⟩ ::
    []))
  (.ret)
def c35_11 : HCode :=
  .seq (.seq (.region none (⟨some 10, .mv 0 (.c (.int .i64 0)), none⟩ ::
    []))
  (.block 0 (.loop (c35_9))))
  (c35_10)
def c35_12 : HCode :=
  .seq (.seq (.region none (⟨some 36, .mv 1 (.t 2), none⟩ ::
    ⟨some 37, .len (.t 36), none⟩ ::
    ⟨some 38, .mv 0 (.t 3), none⟩ ::
    ⟨some 39, .bin .geq (.t 37) (.t 38), none⟩ ::
    []))
  (.cond (.t 39) (c35_4) (.skip)))
  (c35_11)
def c35_13 : HCode :=
  .seq (.seq (.region none (⟨some 18, .mv 1 (.t 1), none⟩ ::
    ⟨some 19, .mv 0 (.t 9), none⟩ ::
    ⟨some 20, .iaddr 1 (.t 18) (.t 19), none⟩ ::
    ⟨some 21, .load false 1 (.t 20), none⟩ ::
    ⟨some 22, .mv 0 (.t 21), none⟩ ::
    ⟨some 23, .mv 1 (.t 2), some (4, false)⟩ ::
    ⟨some 24, .mv 1 (.t 2), some (4, false)⟩ ::
    ⟨some 25, .len (.t 24), some (4, false)⟩ ::
    ⟨some 26, .bin .sub (.t 25) (.c (.int .i64 1)), some (4, false)⟩ ::
    ⟨some 27, .slc 1 (.t 23) none (some (.t 26)), some (4, false)⟩ ::
    ⟨some 28, .mv 0 (.t 9), some (4, false)⟩ ::
    ⟨some 29, .call 29 [(.t 27), (.t 28)], some (4, false)⟩ ::
    ⟨some 30, .pick (.t 22) (.c (.bool true)) (.t 29), none⟩ ::
    []))
  (.cond (.t 30) (c35_3) (.skip)))
  (c35_12)
def c35_14 : HCode :=
  .seq (.region none (⟨some 12, .mv 1 (.t 2), none⟩ ::
    ⟨some 13, .mv 1 (.t 2), none⟩ ::
    ⟨some 14, .len (.t 13), none⟩ ::
    ⟨some 15, .bin .sub (.t 14) (.c (.int .i64 1)), none⟩ ::
    ⟨some 16, .iaddr 1 (.t 12) (.t 15), none⟩ ::
    ⟨some 17, .load false 1 (.t 16), none⟩ ::
    ⟨some 9, .mv 0 (.t 17), none⟩ ::
    []))
  (c35_13)
def c35 : HCode :=
  .seq (.region none (⟨some 8, .mv 1 (.c (.nils)), none⟩ ::
    []))
  (c35_14)
theorem fc35 : funCode Try.prog 35 = some (c35, [8], 69) := by kernel_rfl

def c36_1 : HCode :=
  .seq (.region none (⟨some 17, .mv 0 (.t 5), none⟩ ::
    ⟨some 4, .mv 0 (.t 17), none⟩ ::
    []))
  (.ret)
def c36_2 : HCode :=
  .seq (.region none (⟨some 11, .mv 0 (.t 1), none⟩ ::
    ⟨some 12, .mv 1 (.t 0), none⟩ ::
    ⟨some 13, .mv 0 (.t 5), none⟩ ::
    ⟨some 14, .iaddr 1 (.t 12) (.t 13), none⟩ ::
    ⟨some 15, .load false 1 (.t 14), none⟩ ::
    ⟨some 16, .callv (.t 11) [(.t 15)], none⟩ ::
    []))
  (.cond (.t 16) (c36_1) (.skip))
def c36_3 : HCode :=
  .region none (⟨some 18, .bin .add (.t 8) (.c (.int .i64 1)), none⟩ ::
    ⟨some 8, .mv 0 (.t 18), none⟩ ::
    [])
def c36_4 : HCode :=
  .seq (.block 1 (.seq (.region none (⟨some 10, .mv 0 (.t 8), none⟩ ::
      ⟨some 5, .mv 0 (.t 10), none⟩ ::
      []))
    (c36_2)))
  (c36_3)
def c36_5 : HCode :=
  .seq (.region none (⟨some 9, .bin .lss (.t 8) (.t 7), none⟩ ::
    []))
  (.seq (.cond (.t 9) (.skip) (.exit 0))
  (c36_4))
def c36_6 : HCode :=
  .seq (.region none (⟨some 4, .mv 0 (.c (.int .i64 (-1))), none⟩ ::
    []))
  (.ret)
def c36_7 : HCode :=
  .seq (.seq (.region none (⟨some 6, .mv 1 (.t 0), none⟩ ::
    ⟨some 7, .len (.t 6), none⟩ ::
    ⟨some 8, .mv 0 (.c (.int .i64 0)), none⟩ ::
    []))
  (.block 0 (.loop (c36_5))))
  (c36_6)
def c36 : HCode :=
  .seq (.region none (⟨some 4, .mv 0 (.c (.int .i64 0)), none⟩ ::
    []))
  (c36_7)
theorem fc36 : funCode Try.prog 36 = some (c36, [4], 19) := by kernel_rfl

def c37_1 : HCode :=
  .seq (.region (some [0, 0, 3, 7, 15, 31, 63, 63, 255, 511, 63, 2047, 4095, 63, 63, 24639, 57407, 63, 131135, 516159, 1048575, 2097151, 4194303]) (⟨some 8, .load false 1 (.t 1), none⟩ ::
    ⟨some 9, .mv 0 (.t 0), none⟩ ::
    ⟨some 10, .iaddr 1 (.t 8) (.t 9), none⟩ ::
    ⟨some 11, .load false 1 (.t 10), none⟩ ::
    ⟨some 12, .un .not (.t 11), none⟩ ::
    ⟨some 13, .mv 0 (.t 12), none⟩ ::
    ⟨some 14, .load false 1 (.t 2), some (5, true)⟩ ::
    ⟨some 15, .mv 0 (.t 0), some (5, true)⟩ ::
    ⟨some 16, .iaddr 1 (.t 14) (.t 15), some (5, true)⟩ ::
    ⟨some 17, .load false 1 (.t 16), some (5, true)⟩ ::
    ⟨some 18, .load false 1 (.t 3), some (5, true)⟩ ::
    ⟨some 19, .iaddr 1 (.t 17) (.t 18), some (5, true)⟩ ::
    ⟨some 20, .load false 1 (.t 19), some (5, true)⟩ ::
    ⟨some 21, .load false 1 (.t 4), some (5, true)⟩ ::
    ⟨some 22, .load false 1 (.t 3), some (5, true)⟩ ::
    ⟨some 23, .iaddr 1 (.t 21) (.t 22), some (5, true)⟩ ::
    ⟨some 24, .load false 1 (.t 23), some (5, true)⟩ ::
    ⟨some 25, .load false 1 (.t 5), some (5, true)⟩ ::
    ⟨some 26, .len (.t 25), some (5, true)⟩ ::
    ⟨some 27, .bin .sub (.t 24) (.t 26), some (5, true)⟩ ::
    ⟨some 28, .bin .eql (.t 20) (.t 27), some (5, true)⟩ ::
    ⟨some 29, .pick (.t 13) (.t 28) (.c (.bool false)), none⟩ ::
    ⟨some 7, .mv 0 (.t 29), none⟩ ::
    []))
  (.ret)
def c37 : HCode :=
  .seq (.region none (⟨some 7, .mv 0 (.c (.bool false)), none⟩ ::
    []))
  (c37_1)
theorem fc37 : funCode Try.prog 37 = some (c37, [7], 30) := by kernel_rfl

def c43_1 : HCode :=
  .region none (⟨some 55, .mv 1 (.t 8), none⟩ ::
    ⟨some 56, .mv 0 (.t 11), none⟩ ::
    ⟨some 57, .bsl 1 1 [(.t 56)], none⟩ ::
    ⟨some 58, .app true 1 8 (.t 55) (.t 57), none⟩ ::
    ⟨some 8, .mv 1 (.t 58), none⟩ ::
    [])
def c43_2 : HCode :=
  .seq (.region none (⟨some 47, .mv 1 (.t 7), none⟩ ::
    ⟨some 48, .mv 0 (.t 11), none⟩ ::
    ⟨some 49, .mv 1 (.t 7), none⟩ ::
    ⟨some 50, .mv 0 (.t 9), none⟩ ::
    ⟨some 51, .iaddr 1 (.t 49) (.t 50), none⟩ ::
    ⟨some 52, .load false 1 (.t 51), none⟩ ::
    ⟨some 53, .bin .add (.t 52) (.c (.int .i64 1)), none⟩ ::
    ⟨some 54, .iaddr 1 (.t 47) (.t 48), none⟩ ::
    ⟨none, .store true 1 (.t 54) (.t 53), none⟩ ::
    []))
  (c43_1)
def c43_3 : HCode :=
  .seq (.region none (⟨some 42, .mv 1 (.t 7), none⟩ ::
    ⟨some 43, .mv 0 (.t 11), none⟩ ::
    ⟨some 44, .iaddr 1 (.t 42) (.t 43), none⟩ ::
    ⟨some 45, .load false 1 (.t 44), none⟩ ::
    ⟨some 46, .bin .lss (.t 45) (.c (.int .i64 0)), none⟩ ::
    []))
  (.cond (.t 46) (c43_2) (.skip))
def c43_4 : HCode :=
  .region none (⟨some 59, .bin .add (.t 38) (.c (.int .i64 1)), none⟩ ::
    ⟨some 38, .mv 0 (.t 59), none⟩ ::
    [])
def c43_5 : HCode :=
  .seq (.block 3 (.seq (.region none (⟨some 40, .iaddr 1 (.t 36) (.t 38), none⟩ ::
      ⟨some 41, .load false 1 (.t 40), none⟩ ::
      ⟨some 11, .mv 0 (.t 41), none⟩ ::
      []))
    (c43_3)))
  (c43_4)
def c43_6 : HCode :=
  .seq (.region none (⟨some 39, .bin .lss (.t 38) (.t 37), none⟩ ::
    []))
  (.seq (.cond (.t 39) (.skip) (.exit 2))
  (c43_5))
def c43_7 : HCode :=
  .seq (.region none (⟨some 33, .mv 1 (.t 0), none⟩ ::
    ⟨some 34, .mv 0 (.t 9), none⟩ ::
    ⟨some 35, .iaddr 1 (.t 33) (.t 34), none⟩ ::
    ⟨some 36, .load false 1 (.t 35), none⟩ ::
    ⟨some 37, .len (.t 36), none⟩ ::
    ⟨some 38, .mv 0 (.c (.int .i64 0)), none⟩ ::
    []))
  (.block 2 (.loop (c43_6)))
def c43_8 : HCode :=
  .seq (.seq (.region none (⟨some 29, .mv 1 (.t 1), none⟩ ::
    ⟨some 30, .mv 0 (.t 9), none⟩ ::
    ⟨some 31, .iaddr 1 (.t 29) (.t 30), none⟩ ::
    ⟨some 32, .load false 1 (.t 31), none⟩ ::
    []))
  (.cond (.t 32) (.exit 1) (.skip)))
  (c43_7)
def c43_9 : HCode :=
  .seq (.region none (⟨some 27, .mv 1 (.t 8), none⟩ ::
    ⟨some 28, .slc 1 (.t 27) (some (.c (.int .i64 1))) none, none⟩ ::
    ⟨some 8, .mv 1 (.t 28), none⟩ ::
    []))
  (c43_8)
def c43_10 : HCode :=
  .block 1 (.seq (.region none (⟨some 24, .mv 1 (.t 8), none⟩ ::
      ⟨some 25, .iaddr 1 (.t 24) (.c (.int .i64 0)), none⟩ ::
      ⟨some 26, .load false 1 (.t 25), none⟩ ::
      ⟨some 9, .mv 0 (.t 26), none⟩ ::
      []))
    (c43_9))
def c43_11 : HCode :=
  .seq (.seq (.region none (⟨some 21, .mv 1 (.t 8), none⟩ ::
    ⟨some 22, .len (.t 21), none⟩ ::
    ⟨some 23, .bin .gtr (.t 22) (.c (.int .i64 0)), none⟩ ::
    []))
  (.cond (.t 23) (.skip) (.exit 0)))
  (c43_10)
def c43_12 : HCode :=
  .seq (.region none (⟨some 60, .mv 1 (.t 7), none⟩ ::
    ⟨some 6, .mv 1 (.t 60), none⟩ ::
    []))
  (.ret)
def c43_13 : HCode :=
  .seq (.region none (⟨some 19, .mv 0 (.t 2), none⟩ ::
    ⟨some 20, .bsl 1 1 [(.t 19)], none⟩ ::
    ⟨some 8, .mv 1 (.t 20), none⟩ ::
    []))
  (.seq (.block 0 (.loop (c43_11)))
  (c43_12))
def c43_14 : HCode :=
  .seq (.region none (⟨some 16, .mv 1 (.t 7), none⟩ ::
    ⟨some 17, .mv 0 (.t 2), none⟩ ::
    ⟨some 18, .iaddr 1 (.t 16) (.t 17), none⟩ ::
    ⟨none, .store true 1 (.t 18) (.c (.int .i64 0)), none⟩ ::
    []))
  (c43_13)
def c43_15 : HCode :=
  .seq (.region none (⟨some 12, .bsl 1 1 [(.c (.int .i64 (-1)))], none⟩ ::
    ⟨some 13, .mv 1 (.t 0), none⟩ ::
    ⟨some 14, .len (.t 13), none⟩ ::
    ⟨some 15, .call 47 [(.t 12), (.t 14)], none⟩ ::
    ⟨some 7, .mv 1 (.t 15), none⟩ ::
    []))
  (c43_14)
def c43 : HCode :=
  .seq (.region none (⟨some 6, .mv 1 (.c (.nils)), none⟩ ::
    []))
  (c43_15)
theorem fc43 : funCode Try.prog 43 = some (c43, [6], 61) := by kernel_rfl

def c47_1 : HCode :=
  .region none (⟨some 11, .bad, none⟩ ::
    ⟨none, .bad, none⟩ ::
    [])
def c47_2 : HCode :=
  .region none (⟨some 27, .bad, none⟩ ::
    ⟨none, .bad, none⟩ ::
    [])
def c47_3 : HCode :=
  .block 1 (.region (some [0, 0, 0, 6, 0, 0, 48, 126, 255, 511]) (⟨some 38, .mv 0 (.t 8), none⟩ ::
      ⟨some 39, .mv 1 (.t 7), none⟩ ::
      ⟨some 40, .mv 0 (.t 8), none⟩ ::
      ⟨some 41, .slc 1 (.t 39) (some (.t 40)) none, none⟩ ::
      ⟨some 42, .mv 1 (.t 7), none⟩ ::
      ⟨some 43, .mv 0 (.t 8), none⟩ ::
      ⟨some 44, .slc 1 (.t 42) none (some (.t 43)), none⟩ ::
      ⟨some 45, .cpy (.t 41) (.t 44), none⟩ ::
      ⟨some 46, .bin .add (.t 38) (.t 45), none⟩ ::
      ⟨some 8, .mv 0 (.t 46), none⟩ ::
      []))
def c47_4 : HCode :=
  .seq (.seq (.region none (⟨some 34, .mv 0 (.t 8), none⟩ ::
    ⟨some 35, .mv 1 (.t 7), none⟩ ::
    ⟨some 36, .len (.t 35), none⟩ ::
    ⟨some 37, .bin .lss (.t 34) (.t 36), none⟩ ::
    []))
  (.cond (.t 37) (.skip) (.exit 0)))
  (c47_3)
def c47_5 : HCode :=
  .seq (.region none (⟨some 47, .mv 1 (.t 7), none⟩ ::
    ⟨some 4, .mv 1 (.t 47), none⟩ ::
    []))
  (.ret)
def c47_6 : HCode :=
  .seq (.region none (⟨some 31, .mv 1 (.t 7), none⟩ ::
    ⟨some 32, .mv 1 (.t 0), none⟩ ::
    ⟨some 33, .cpy (.t 31) (.t 32), none⟩ ::
    ⟨some 8, .mv 0 (.t 33), none⟩ ::
    []))
  (.seq (.block 0 (.loop (c47_4)))
  (c47_5))
def c47_7 : HCode :=
  .seq (.region none (⟨some 28, .mv 0 (.t 6), none⟩ ::
    ⟨some 29, .conv .i64 (.t 28), none⟩ ::
    ⟨some 30, .mksl 1 8 [.int .i64 0] (.t 29), none⟩ ::
    ⟨some 7, .mv 1 (.t 30), none⟩ ::
    []))
  (c47_6)
def c47_8 : HCode :=
  .seq (.seq (.region none (⟨some 21, .mv 0 (.t 5), none⟩ ::
    ⟨some 22, .bin .gtr (.t 21) (.c (.int .u64 0)), none⟩ ::
    ⟨some 23, .mv 0 (.t 22), none⟩ ::
    ⟨some 24, .mv 0 (.t 6), some (2, false)⟩ ::
    ⟨some 25, .bin .gtr (.t 24) (.c (.int .u64 9223372036854775807)), some (2, false)⟩ ::
    ⟨some 26, .pick (.t 23) (.c (.bool true)) (.t 25), none⟩ ::
    []))
  (.cond (.t 26) (c47_2) (.skip)))
  (c47_7)
def c47_9 : HCode :=
  .seq (.region none (⟨some 13, .mv 1 (.t 0), none⟩ ::
    ⟨some 14, .len (.t 13), none⟩ ::
    ⟨some 15, .conv .u64 (.t 14), none⟩ ::
    ⟨some 16, .mv 0 (.t 1), none⟩ ::
    ⟨some 17, .conv .u64 (.t 16), none⟩ ::
    ⟨some 18, .call 48 [(.t 15), (.t 17)], none⟩ ::
    ⟨some 12, .mv 0 (.t 18), none⟩ ::
    ⟨some 19, .ext (.t 12) 0, none⟩ ::
    ⟨some 20, .ext (.t 12) 1, none⟩ ::
    ⟨some 5, .mv 0 (.t 19), none⟩ ::
    ⟨some 6, .mv 0 (.t 20), none⟩ ::
    []))
  (c47_8)
def c47_10 : HCode :=
  .seq (.seq (.region none (⟨some 9, .mv 0 (.t 1), none⟩ ::
    ⟨some 10, .bin .lss (.t 9) (.c (.int .i64 0)), none⟩ ::
    []))
  (.cond (.t 10) (c47_1) (.skip)))
  (c47_9)
def c47 : HCode :=
  .seq (.region none (⟨some 4, .mv 1 (.c (.nils)), none⟩ ::
    []))
  (c47_10)
theorem fc47 : funCode Try.prog 47 = some (c47, [4], 48) := by kernel_rfl

def c48_1 : HCode :=
  .seq (.region none (⟨some 18, .mv 0 (.t 6), none⟩ ::
    ⟨some 19, .conv .u64 (.t 18), none⟩ ::
    ⟨some 20, .mv 0 (.t 7), none⟩ ::
    ⟨some 21, .conv .u64 (.t 20), none⟩ ::
    ⟨some 4, .mv 0 (.t 19), none⟩ ::
    ⟨some 5, .mv 0 (.t 21), none⟩ ::
    []))
  (.ret)
def c48_2 : HCode :=
  .seq (.region none (⟨some 11, .mv 0 (.t 0), none⟩ ::
    ⟨some 12, .conv .u32 (.t 11), none⟩ ::
    ⟨some 13, .mv 0 (.t 1), none⟩ ::
    ⟨some 14, .conv .u32 (.t 13), none⟩ ::
    ⟨some 15, .call 49 [(.t 12), (.t 14)], none⟩ ::
    ⟨some 10, .mv 0 (.t 15), none⟩ ::
    ⟨some 16, .ext (.t 10) 0, none⟩ ::
    ⟨some 17, .ext (.t 10) 1, none⟩ ::
    ⟨some 6, .mv 0 (.t 16), none⟩ ::
    ⟨some 7, .mv 0 (.t 17), none⟩ ::
    []))
  (c48_1)
def c48_3 : HCode :=
  .seq (.region none (⟨some 28, .mv 0 (.t 8), none⟩ ::
    ⟨some 29, .mv 0 (.t 9), none⟩ ::
    ⟨some 4, .mv 0 (.t 28), none⟩ ::
    ⟨some 5, .mv 0 (.t 29), none⟩ ::
    []))
  (.ret)
def c48_4 : HCode :=
  .seq (.region none (⟨some 23, .mv 0 (.t 0), none⟩ ::
    ⟨some 24, .mv 0 (.t 1), none⟩ ::
    ⟨some 25, .call 50 [(.t 23), (.t 24)], none⟩ ::
    ⟨some 22, .mv 0 (.t 25), none⟩ ::
    ⟨some 26, .ext (.t 22) 0, none⟩ ::
    ⟨some 27, .ext (.t 22) 1, none⟩ ::
    ⟨some 8, .mv 0 (.t 26), none⟩ ::
    ⟨some 9, .mv 0 (.t 27), none⟩ ::
    []))
  (c48_3)
def c48 : HCode :=
  .seq (.region none (⟨some 4, .mv 0 (.c (.int .u64 0)), none⟩ ::
    ⟨some 5, .mv 0 (.c (.int .u64 0)), none⟩ ::
    []))
  (.seq (.cond (.c (.bool false)) (c48_2) (.skip))
  (c48_4))
theorem fc48 : funCode Try.prog 48 = some (c48, [4, 5], 30) := by kernel_rfl

def c50_1 : HCode :=
  .seq (.region none (⟨some 48, .mv 0 (.t 0), none⟩ ::
    ⟨some 49, .mv 0 (.t 1), none⟩ ::
    ⟨some 50, .bin .mul (.t 48) (.t 49), none⟩ ::
    ⟨some 5, .mv 0 (.t 50), none⟩ ::
    []))
  (.ret)
def c50_2 : HCode :=
  .seq (.region none (⟨some 40, .mv 0 (.t 7), none⟩ ::
    ⟨some 41, .mv 0 (.t 9), none⟩ ::
    ⟨some 42, .bin .mul (.t 40) (.t 41), none⟩ ::
    ⟨some 43, .mv 0 (.t 13), none⟩ ::
    ⟨some 44, .bin .add (.t 42) (.t 43), none⟩ ::
    ⟨some 45, .mv 0 (.t 12), none⟩ ::
    ⟨some 46, .bin .shr (.t 45) (.c (.int .u64 32)), none⟩ ::
    ⟨some 47, .bin .add (.t 44) (.t 46), none⟩ ::
    ⟨some 4, .mv 0 (.t 47), none⟩ ::
    []))
  (c50_1)
def c50_3 : HCode :=
  .seq (.region none (⟨some 35, .mv 0 (.t 12), none⟩ ::
    ⟨some 36, .mv 0 (.t 6), none⟩ ::
    ⟨some 37, .mv 0 (.t 9), none⟩ ::
    ⟨some 38, .bin .mul (.t 36) (.t 37), none⟩ ::
    ⟨some 39, .bin .add (.t 35) (.t 38), none⟩ ::
    ⟨some 12, .mv 0 (.t 39), none⟩ ::
    []))
  (c50_2)
def c50_4 : HCode :=
  .seq (.region none (⟨some 33, .mv 0 (.t 11), none⟩ ::
    ⟨some 34, .bin .shr (.t 33) (.c (.int .u64 32)), none⟩ ::
    ⟨some 13, .mv 0 (.t 34), none⟩ ::
    []))
  (c50_3)
def c50_5 : HCode :=
  .seq (.region none (⟨some 31, .mv 0 (.t 11), none⟩ ::
    ⟨some 32, .bin .and (.t 31) (.c (.int .u64 4294967295)), none⟩ ::
    ⟨some 12, .mv 0 (.t 32), none⟩ ::
    []))
  (c50_4)
def c50_6 : HCode :=
  .seq (.region none (⟨some 25, .mv 0 (.t 7), none⟩ ::
    ⟨some 26, .mv 0 (.t 8), none⟩ ::
    ⟨some 27, .bin .mul (.t 25) (.t 26), none⟩ ::
    ⟨some 28, .mv 0 (.t 10), none⟩ ::
    ⟨some 29, .bin .shr (.t 28) (.c (.int .u64 32)), none⟩ ::
    ⟨some 30, .bin .add (.t 27) (.t 29), none⟩ ::
    ⟨some 11, .mv 0 (.t 30), none⟩ ::
    []))
  (c50_5)
def c50_7 : HCode :=
  .seq (.region none (⟨some 22, .mv 0 (.t 6), none⟩ ::
    ⟨some 23, .mv 0 (.t 8), none⟩ ::
    ⟨some 24, .bin .mul (.t 22) (.t 23), none⟩ ::
    ⟨some 10, .mv 0 (.t 24), none⟩ ::
    []))
  (c50_6)
def c50_8 : HCode :=
  .seq (.region none (⟨some 20, .mv 0 (.t 1), none⟩ ::
    ⟨some 21, .bin .shr (.t 20) (.c (.int .u64 32)), none⟩ ::
    ⟨some 9, .mv 0 (.t 21), none⟩ ::
    []))
  (c50_7)
def c50_9 : HCode :=
  .seq (.region none (⟨some 18, .mv 0 (.t 1), none⟩ ::
    ⟨some 19, .bin .and (.t 18) (.c (.int .u64 4294967295)), none⟩ ::
    ⟨some 8, .mv 0 (.t 19), none⟩ ::
    []))
  (c50_8)
def c50_10 : HCode :=
  .seq (.region none (⟨some 16, .mv 0 (.t 0), none⟩ ::
    ⟨some 17, .bin .shr (.t 16) (.c (.int .u64 32)), none⟩ ::
    ⟨some 7, .mv 0 (.t 17), none⟩ ::
    []))
  (c50_9)
def c50_11 : HCode :=
  .seq (.region none (⟨some 14, .mv 0 (.t 0), none⟩ ::
    ⟨some 15, .bin .and (.t 14) (.c (.int .u64 4294967295)), none⟩ ::
    ⟨some 6, .mv 0 (.t 15), none⟩ ::
    []))
  (c50_10)
def c50 : HCode :=
  .seq (.region none (⟨some 4, .mv 0 (.c (.int .u64 0)), none⟩ ::
    ⟨some 5, .mv 0 (.c (.int .u64 0)), none⟩ ::
    []))
  (c50_11)
theorem fc50 : funCode Try.prog 50 = some (c50, [4, 5], 51) := by kernel_rfl

end Go.Proofs.Ytjlidhijnohkbaa
