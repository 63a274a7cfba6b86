/-
  OWN WORK, written by my own program. The functions that the claim reaches, in the value language; each is checked against the translation.
-/
import Derived.Test.YtpffacaeonccpaaHl4
import Derived.Test.YtpffacaeonccpaaProg
namespace Go.Proofs.Ytpffacaeonccpaa
open Go.HL
set_option maxRecDepth 100000
set_option linter.unusedVariables false
def c2 : HCode :=
  .region none (⟨some 0, .call 1 [], none⟩ ::
    [])
def c4_1 : HCode :=
  .seq (.region none (⟨some 6, .mv 1 (.t 5), none⟩ ::
    ⟨some 7, .mv 1 (.t 0), none⟩ ::
    ⟨some 8, .mv 1 (.t 0), none⟩ ::
    ⟨some 9, .len (.t 8), none⟩ ::
    ⟨some 10, .mv 0 (.t 1), none⟩ ::
    ⟨some 11, .mm false (.t 9) (.t 10), none⟩ ::
    ⟨some 12, .slc 1 (.t 7) none (some (.t 11)), none⟩ ::
    ⟨some 13, .app true 1 8 (.t 6) (.t 12), none⟩ ::
    ⟨some 4, .mv 1 (.t 13), none⟩ ::
    []))
  (.ret)
def c4_2 : HCode :=
  .seq (.region none (⟨some 5, .mv 1 (.c (.nils)), none⟩ ::
    []))
  (c4_1)
def c4 : HCode :=
  .seq (.region none (⟨some 4, .mv 1 (.c (.nils)), none⟩ ::
    []))
  (c4_2)
theorem fc4 : funCode Try.prog 4 = some (c4, [4], 14) := by kernel_rfl

def c5_1 : HCode :=
  .seq (.region none (⟨some 6, .mv 1 (.c (.nils)), none⟩ ::
    ⟨some 7, .mv 0 (.c (.int .i64 1)), none⟩ ::
    []))
  (.ret)
def c5_2 : HCode :=
  .seq (.region none (⟨some 6, .mv 1 (.c (.nils)), none⟩ ::
    ⟨some 7, .mv 0 (.c (.int .i64 4)), none⟩ ::
    []))
  (.ret)
def c5_3 : HCode :=
  .region none (⟨some 51, .mv 1 (.t 9), none⟩ ::
    ⟨some 52, .mv 0 (.t 11), none⟩ ::
    ⟨some 53, .bin .sub (.t 52) (.c (.int .i64 1)), none⟩ ::
    ⟨some 54, .iaddr 1 (.t 51) (.t 53), none⟩ ::
    ⟨some 55, .load false 1 (.t 54), none⟩ ::
    ⟨some 12, .mv 0 (.t 55), none⟩ ::
    [])
def c5_4 : HCode :=
  .seq (.region none (⟨some 70, .mv 1 (.t 9), none⟩ ::
    ⟨some 71, .mv 0 (.t 11), none⟩ ::
    ⟨some 72, .slc 1 (.t 70) none (some (.t 71)), none⟩ ::
    ⟨some 73, .mv 1 (.t 14), none⟩ ::
    ⟨some 74, .app true 1 8 (.t 72) (.t 73), none⟩ ::
    ⟨some 9, .mv 1 (.t 74), none⟩ ::
    []))
  (.exit 0)
def c5_5 : HCode :=
  .seq (.region none (⟨some 69, .mv 0 (.t 15), none⟩ ::
    []))
  (.cond (.t 69) (c5_4) (.skip))
def c5_6 : HCode :=
  .region none (⟨some 59, .mv 0 (.t 13), none⟩ ::
    ⟨some 60, .bin .add (.t 59) (.c (.int .i64 1)), none⟩ ::
    ⟨some 13, .mv 0 (.t 60), none⟩ ::
    [])
def c5_7 : HCode :=
  .seq (.block 1 (.seq (.region none (⟨some 62, .mv 2 (.t 8), none⟩ ::
      ⟨some 63, .mv 0 (.t 12), none⟩ ::
      ⟨some 64, .mv 0 (.t 13), none⟩ ::
      ⟨some 65, .mv 0 (.t 2), none⟩ ::
      ⟨some 66, .call 14 [(.t 62), (.t 63), (.t 64), (.t 65)], none⟩ ::
      ⟨some 61, .mv 0 (.t 66), none⟩ ::
      ⟨some 67, .ext (.t 61) 0, none⟩ ::
      ⟨some 68, .ext (.t 61) 1, none⟩ ::
      ⟨some 14, .mv 1 (.t 67), none⟩ ::
      ⟨some 15, .mv 0 (.t 68), none⟩ ::
      []))
    (c5_5)))
  (c5_6)
def c5_8 : HCode :=
  .seq (.seq (.region none (⟨some 56, .mv 0 (.t 13), none⟩ ::
    ⟨some 57, .mv 0 (.t 1), none⟩ ::
    ⟨some 58, .bin .leq (.t 56) (.t 57), none⟩ ::
    []))
  (.cond (.t 58) (.skip) (.exit 0)))
  (c5_7)
def c5_9 : HCode :=
  .seq (.region none (⟨some 13, .mv 0 (.c (.int .i64 1)), none⟩ ::
    []))
  (.block 0 (.loop (c5_8)))
def c5_10 : HCode :=
  .seq (.seq (.region none (⟨some 49, .mv 0 (.t 11), none⟩ ::
    ⟨some 50, .bin .gtr (.t 49) (.c (.int .i64 0)), none⟩ ::
    []))
  (.cond (.t 50) (c5_3) (.skip)))
  (c5_9)
def c5_11 : HCode :=
  .seq (.region none (⟨some 12, .mv 0 (.c (.int .i64 0)), none⟩ ::
    []))
  (c5_10)
def c5_12 : HCode :=
  .seq (.region none (⟨some 42, .mv 1 (.t 9), none⟩ ::
    ⟨some 43, .len (.t 42), none⟩ ::
    ⟨some 44, .bin .sub (.t 43) (.c (.int .i64 1)), none⟩ ::
    ⟨some 45, .mv 0 (.t 2), none⟩ ::
    ⟨some 46, .bin .quo (.t 44) (.t 45), none⟩ ::
    ⟨some 47, .mv 0 (.t 2), none⟩ ::
    ⟨some 48, .bin .mul (.t 46) (.t 47), none⟩ ::
    ⟨some 11, .mv 0 (.t 48), none⟩ ::
    []))
  (c5_11)
def c5_13 : HCode :=
  .region none (⟨some 95, .mv 0 (.t 18), none⟩ ::
    ⟨some 96, .bin .add (.t 95) (.c (.int .i64 1)), none⟩ ::
    ⟨some 18, .mv 0 (.t 96), none⟩ ::
    [])
def c5_14 : HCode :=
  .seq (.region none (⟨some 94, .mv 0 (.t 17), none⟩ ::
    ⟨some 19, .mv 0 (.t 94), none⟩ ::
    []))
  (c5_13)
def c5_15 : HCode :=
  .region none (⟨some 116, .mv 0 (.t 17), none⟩ ::
    ⟨some 117, .bin .add (.t 116) (.c (.int .i64 1)), none⟩ ::
    ⟨some 17, .mv 0 (.t 117), none⟩ ::
    [])
def c5_16 : HCode :=
  .seq (.region (some [0, 0, 0, 0, 12, 28, 0, 0, 192, 0, 0, 1536, 0, 0, 12288, 32704, 65472, 131068, 262143, 524287]) (⟨some 97, .mv 1 (.t 16), none⟩ ::
    ⟨some 98, .mv 0 (.t 20), none⟩ ::
    ⟨some 99, .mv 1 (.t 16), none⟩ ::
    ⟨some 100, .mv 0 (.t 20), none⟩ ::
    ⟨some 101, .iaddr 1 (.t 99) (.t 100), none⟩ ::
    ⟨some 102, .load false 1 (.t 101), none⟩ ::
    ⟨some 103, .mv 0 (.t 18), none⟩ ::
    ⟨some 104, .mv 0 (.t 2), none⟩ ::
    ⟨some 105, .bin .quo (.t 103) (.t 104), none⟩ ::
    ⟨some 106, .mv 0 (.t 18), none⟩ ::
    ⟨some 107, .mv 0 (.t 2), none⟩ ::
    ⟨some 108, .bin .rem (.t 106) (.t 107), none⟩ ::
    ⟨some 109, .mv 0 (.t 17), none⟩ ::
    ⟨some 110, .mv 0 (.t 19), none⟩ ::
    ⟨some 111, .bin .sub (.t 109) (.t 110), none⟩ ::
    ⟨some 112, .bld [.int .i64 0, .int .i64 0, .int .i64 0] [(0, 1, (.t 105)), (1, 1, (.t 108)), (2, 1, (.t 111))], none⟩ ::
    ⟨some 113, .bsl 3 1 [(.t 112)], none⟩ ::
    ⟨some 114, .app true 3 24 (.t 102) (.t 113), none⟩ ::
    ⟨some 115, .iaddr 1 (.t 97) (.t 98), none⟩ ::
    ⟨none, .store false 1 (.t 115) (.t 114), none⟩ ::
    []))
  (c5_15)
def c5_17 : HCode :=
  .region none (⟨some 118, .bin .add (.t 86) (.c (.int .i64 1)), none⟩ ::
    ⟨some 86, .mv 0 (.t 118), none⟩ ::
    [])
def c5_18 : HCode :=
  .seq (.block 5 (.seq (.seq (.region none (⟨some 88, .mv 0 (.t 17), none⟩ ::
      ⟨some 89, .mv 1 (.t 9), none⟩ ::
      ⟨some 90, .mv 0 (.t 18), none⟩ ::
      ⟨some 91, .iaddr 1 (.t 89) (.t 90), none⟩ ::
      ⟨some 92, .load false 1 (.t 91), none⟩ ::
      ⟨some 93, .bin .eql (.t 88) (.t 92), none⟩ ::
      []))
    (.cond (.t 93) (c5_14) (.skip)))
    (c5_16)))
  (c5_17)
def c5_19 : HCode :=
  .seq (.region none (⟨some 87, .bin .lss (.t 86) (.t 85), none⟩ ::
    []))
  (.seq (.cond (.t 87) (.skip) (.exit 4))
  (c5_18))
def c5_20 : HCode :=
  .seq (.region none (⟨some 85, .mv 0 (.t 21), none⟩ ::
    ⟨some 86, .mv 0 (.c (.int .i64 0)), none⟩ ::
    []))
  (.block 4 (.loop (c5_19)))
def c5_21 : HCode :=
  .region none (⟨some 119, .bin .add (.t 80) (.c (.int .i64 1)), none⟩ ::
    ⟨some 80, .mv 0 (.t 119), none⟩ ::
    [])
def c5_22 : HCode :=
  .seq (.block 3 (.seq (.region none (⟨some 82, .mv 0 (.t 80), none⟩ ::
      ⟨some 83, .iaddr 1 (.t 78) (.t 80), none⟩ ::
      ⟨some 84, .load false 1 (.t 83), none⟩ ::
      ⟨some 20, .mv 0 (.t 82), none⟩ ::
      ⟨some 21, .mv 0 (.t 84), none⟩ ::
      []))
    (c5_20)))
  (c5_21)
def c5_23 : HCode :=
  .seq (.region none (⟨some 81, .bin .lss (.t 80) (.t 79), none⟩ ::
    []))
  (.seq (.cond (.t 81) (.skip) (.exit 2))
  (c5_22))
def c5_24 : HCode :=
  .seq (.region none (⟨some 120, .mv 1 (.t 16), none⟩ ::
    ⟨some 6, .mv 1 (.t 120), none⟩ ::
    ⟨some 7, .mv 0 (.c (.int .i64 0)), none⟩ ::
    []))
  (.ret)
def c5_25 : HCode :=
  .seq (.seq (.region none (⟨some 78, .mv 1 (.t 0), none⟩ ::
    ⟨some 79, .len (.t 78), none⟩ ::
    ⟨some 80, .mv 0 (.c (.int .i64 0)), none⟩ ::
    []))
  (.block 2 (.loop (c5_23))))
  (c5_24)
def c5_26 : HCode :=
  .seq (.region none (⟨some 17, .mv 0 (.c (.int .i64 0)), none⟩ ::
    ⟨some 18, .mv 0 (.c (.int .i64 0)), none⟩ ::
    ⟨some 19, .mv 0 (.c (.int .i64 0)), none⟩ ::
    []))
  (c5_25)
def c5_27 : HCode :=
  .seq (.region none (⟨some 75, .mv 1 (.t 0), none⟩ ::
    ⟨some 76, .len (.t 75), none⟩ ::
    ⟨some 77, .mksl 1 24 [.osl 3 0 []] (.t 76), none⟩ ::
    ⟨some 16, .mv 1 (.t 77), none⟩ ::
    []))
  (c5_26)
def c5_28 : HCode :=
  .seq (.seq (.region none (⟨some 39, .mv 1 (.t 9), none⟩ ::
    ⟨some 40, .len (.t 39), none⟩ ::
    ⟨some 41, .bin .gtr (.t 40) (.c (.int .i64 0)), none⟩ ::
    []))
  (.cond (.t 41) (c5_12) (.skip)))
  (c5_27)
def c5_29 : HCode :=
  .seq (.seq (.region none (⟨some 37, .mv 0 (.t 10), none⟩ ::
    ⟨some 38, .un .not (.t 37), none⟩ ::
    []))
  (.cond (.t 38) (c5_2) (.skip)))
  (c5_28)
def c5_30 : HCode :=
  .seq (.region none (⟨some 30, .mv 2 (.t 8), none⟩ ::
    ⟨some 31, .mv 0 (.t 1), none⟩ ::
    ⟨some 32, .mv 0 (.t 2), none⟩ ::
    ⟨some 33, .bin .mul (.c (.int .i64 64)) (.t 32), none⟩ ::
    ⟨some 34, .call 14 [(.t 30), (.c (.int .i64 0)), (.t 31), (.t 33)], none⟩ ::
    ⟨some 29, .mv 0 (.t 34), none⟩ ::
    ⟨some 35, .ext (.t 29) 0, none⟩ ::
    ⟨some 36, .ext (.t 29) 1, none⟩ ::
    ⟨some 9, .mv 1 (.t 35), none⟩ ::
    ⟨some 10, .mv 0 (.t 36), none⟩ ::
    []))
  (c5_29)
def c5_31 : HCode :=
  .seq (.region none (⟨some 27, .mv 1 (.t 0), none⟩ ::
    ⟨some 28, .call 13 [(.t 27)], none⟩ ::
    ⟨some 8, .mv 2 (.t 28), none⟩ ::
    []))
  (c5_30)
def c5_32 : HCode :=
  .seq (.seq (.region none (⟨some 22, .mv 1 (.t 0), none⟩ ::
    ⟨some 23, .mv 0 (.t 1), none⟩ ::
    ⟨some 24, .mv 0 (.t 2), none⟩ ::
    ⟨some 25, .call 7 [(.t 22), (.t 23), (.t 24)], none⟩ ::
    ⟨some 26, .un .not (.t 25), none⟩ ::
    []))
  (.cond (.t 26) (c5_1) (.skip)))
  (c5_31)
def c5 : HCode :=
  .seq (.region none (⟨some 6, .mv 1 (.c (.nils)), none⟩ ::
    ⟨some 7, .mv 0 (.c (.int .i64 0)), none⟩ ::
    []))
  (c5_32)
theorem fc5 : funCode Try.prog 5 = some (c5, [6, 7], 121) := by kernel_rfl

def c6_1 : HCode :=
  .seq (.region none (⟨some 6, .mv 1 (.c (.nils)), none⟩ ::
    ⟨some 7, .mv 0 (.c (.int .i64 1)), none⟩ ::
    []))
  (.ret)
def c6_2 : HCode :=
  .seq (.region none (⟨some 31, .mv 0 (.t 9), none⟩ ::
    ⟨some 6, .mv 1 (.c (.nils)), none⟩ ::
    ⟨some 7, .mv 0 (.t 31), none⟩ ::
    []))
  (.ret)
def c6_3 : HCode :=
  .region none (⟨some 45, .mv 0 (.t 13), none⟩ ::
    ⟨some 46, .bin .add (.t 45) (.c (.int .i64 1)), none⟩ ::
    ⟨some 13, .mv 0 (.t 46), none⟩ ::
    [])
def c6_4 : HCode :=
  .seq (.block 3 (.region (some [0, 0, 0, 6, 0, 0, 48, 0, 0, 384, 1022, 2046, 4095, 8191]) (⟨some 47, .mv 3 (.t 10), none⟩ ::
      ⟨some 48, .mv 0 (.t 12), none⟩ ::
      ⟨some 49, .mv 0 (.t 2), none⟩ ::
      ⟨some 50, .bin .quo (.t 48) (.t 49), none⟩ ::
      ⟨some 51, .mv 0 (.t 12), none⟩ ::
      ⟨some 52, .mv 0 (.t 2), none⟩ ::
      ⟨some 53, .bin .rem (.t 51) (.t 52), none⟩ ::
      ⟨some 54, .mv 0 (.t 13), none⟩ ::
      ⟨some 55, .mv 0 (.t 11), none⟩ ::
      ⟨some 56, .bin .sub (.t 54) (.t 55), none⟩ ::
      ⟨some 57, .bld [.int .i64 0, .int .i64 0, .int .i64 0] [(0, 1, (.t 50)), (1, 1, (.t 53)), (2, 1, (.t 56))], none⟩ ::
      ⟨some 58, .bsl 3 1 [(.t 57)], none⟩ ::
      ⟨some 59, .app true 3 24 (.t 47) (.t 58), none⟩ ::
      ⟨some 10, .mv 3 (.t 59), none⟩ ::
      [])))
  (c6_3)
def c6_5 : HCode :=
  .seq (.seq (.region none (⟨some 39, .mv 0 (.t 13), none⟩ ::
    ⟨some 40, .mv 1 (.t 8), none⟩ ::
    ⟨some 41, .mv 0 (.t 12), none⟩ ::
    ⟨some 42, .iaddr 1 (.t 40) (.t 41), none⟩ ::
    ⟨some 43, .load false 1 (.t 42), none⟩ ::
    ⟨some 44, .bin .lss (.t 39) (.t 43), none⟩ ::
    []))
  (.cond (.t 44) (.skip) (.exit 2)))
  (c6_4)
def c6_6 : HCode :=
  .region none (⟨some 60, .mv 1 (.t 8), none⟩ ::
    ⟨some 61, .mv 0 (.t 12), none⟩ ::
    ⟨some 62, .iaddr 1 (.t 60) (.t 61), none⟩ ::
    ⟨some 63, .load false 1 (.t 62), none⟩ ::
    ⟨some 11, .mv 0 (.t 63), none⟩ ::
    [])
def c6_7 : HCode :=
  .region none (⟨some 36, .mv 0 (.t 12), none⟩ ::
    ⟨some 37, .bin .add (.t 36) (.c (.int .i64 1)), none⟩ ::
    ⟨some 12, .mv 0 (.t 37), none⟩ ::
    [])
def c6_8 : HCode :=
  .seq (.block 1 (.seq (.seq (.region none (⟨some 38, .mv 0 (.t 11), none⟩ ::
      ⟨some 13, .mv 0 (.t 38), none⟩ ::
      []))
    (.block 2 (.loop (c6_5))))
    (c6_6)))
  (c6_7)
def c6_9 : HCode :=
  .seq (.seq (.region none (⟨some 32, .mv 0 (.t 12), none⟩ ::
    ⟨some 33, .mv 1 (.t 8), none⟩ ::
    ⟨some 34, .len (.t 33), none⟩ ::
    ⟨some 35, .bin .lss (.t 32) (.t 34), none⟩ ::
    []))
  (.cond (.t 35) (.skip) (.exit 0)))
  (c6_8)
def c6_10 : HCode :=
  .region none (⟨some 82, .mv 0 (.t 15), none⟩ ::
    ⟨some 83, .mv 1 (.t 0), none⟩ ::
    ⟨some 84, .mv 0 (.t 16), none⟩ ::
    ⟨some 85, .iaddr 1 (.t 83) (.t 84), none⟩ ::
    ⟨some 86, .load false 1 (.t 85), none⟩ ::
    ⟨some 87, .bin .add (.t 82) (.t 86), none⟩ ::
    ⟨some 15, .mv 0 (.t 87), none⟩ ::
    [])
def c6_11 : HCode :=
  .region none (⟨some 68, .mv 0 (.t 16), none⟩ ::
    ⟨some 69, .bin .add (.t 68) (.c (.int .i64 1)), none⟩ ::
    ⟨some 16, .mv 0 (.t 69), none⟩ ::
    [])
def c6_12 : HCode :=
  .seq (.block 5 (.seq (.region none (⟨some 70, .mv 1 (.t 14), none⟩ ::
      ⟨some 71, .mv 3 (.t 10), none⟩ ::
      ⟨some 72, .mv 0 (.t 15), none⟩ ::
      ⟨some 73, .mv 0 (.t 15), none⟩ ::
      ⟨some 74, .mv 1 (.t 0), none⟩ ::
      ⟨some 75, .mv 0 (.t 16), none⟩ ::
      ⟨some 76, .iaddr 1 (.t 74) (.t 75), none⟩ ::
      ⟨some 77, .load false 1 (.t 76), none⟩ ::
      ⟨some 78, .bin .add (.t 73) (.t 77), none⟩ ::
      ⟨some 79, .slc 3 (.t 71) (some (.t 72)) (some (.t 78)), none⟩ ::
      ⟨some 80, .bsl 1 1 [(.t 79)], none⟩ ::
      ⟨some 81, .app false 1 24 (.t 70) (.t 80), none⟩ ::
      ⟨some 14, .mv 1 (.t 81), none⟩ ::
      []))
    (c6_10)))
  (c6_11)
def c6_13 : HCode :=
  .seq (.seq (.region none (⟨some 64, .mv 0 (.t 16), none⟩ ::
    ⟨some 65, .mv 1 (.t 0), none⟩ ::
    ⟨some 66, .len (.t 65), none⟩ ::
    ⟨some 67, .bin .lss (.t 64) (.t 66), none⟩ ::
    []))
  (.cond (.t 67) (.skip) (.exit 4)))
  (c6_12)
def c6_14 : HCode :=
  .seq (.region none (⟨some 88, .mv 1 (.t 14), none⟩ ::
    ⟨some 6, .mv 1 (.t 88), none⟩ ::
    ⟨some 7, .mv 0 (.c (.int .i64 0)), none⟩ ::
    []))
  (.ret)
def c6_15 : HCode :=
  .seq (.seq (.region none (⟨some 16, .mv 0 (.c (.int .i64 0)), none⟩ ::
    []))
  (.block 4 (.loop (c6_13))))
  (c6_14)
def c6_16 : HCode :=
  .seq (.region none (⟨some 15, .mv 0 (.c (.int .i64 0)), none⟩ ::
    []))
  (c6_15)
def c6_17 : HCode :=
  .seq (.region none (⟨some 14, .mv 1 (.c (.nils)), none⟩ ::
    []))
  (c6_16)
def c6_18 : HCode :=
  .seq (.seq (.region none (⟨some 12, .mv 0 (.c (.int .i64 0)), none⟩ ::
    []))
  (.block 0 (.loop (c6_9))))
  (c6_17)
def c6_19 : HCode :=
  .seq (.region none (⟨some 11, .mv 0 (.c (.int .i64 0)), none⟩ ::
    []))
  (c6_18)
def c6_20 : HCode :=
  .seq (.region none (⟨some 10, .mv 3 (.c (.nils)), none⟩ ::
    []))
  (c6_19)
def c6_21 : HCode :=
  .seq (.seq (.region none (⟨some 29, .mv 0 (.t 9), none⟩ ::
    ⟨some 30, .bin .neq (.t 29) (.c (.int .i64 0)), none⟩ ::
    []))
  (.cond (.t 30) (c6_2) (.skip)))
  (c6_20)
def c6_22 : HCode :=
  .seq (.region none (⟨some 23, .mv 1 (.t 0), none⟩ ::
    ⟨some 24, .mv 0 (.t 1), none⟩ ::
    ⟨some 25, .mv 0 (.t 2), none⟩ ::
    ⟨some 26, .call 15 [(.t 23), (.t 24), (.t 25)], none⟩ ::
    ⟨some 22, .mv 0 (.t 26), none⟩ ::
    ⟨some 27, .ext (.t 22) 0, none⟩ ::
    ⟨some 28, .ext (.t 22) 1, none⟩ ::
    ⟨some 8, .mv 1 (.t 27), none⟩ ::
    ⟨some 9, .mv 0 (.t 28), none⟩ ::
    []))
  (c6_21)
def c6_23 : HCode :=
  .seq (.seq (.region none (⟨some 17, .mv 1 (.t 0), none⟩ ::
    ⟨some 18, .mv 0 (.t 1), none⟩ ::
    ⟨some 19, .mv 0 (.t 2), none⟩ ::
    ⟨some 20, .call 8 [(.t 17), (.t 18), (.t 19)], none⟩ ::
    ⟨some 21, .un .not (.t 20), none⟩ ::
    []))
  (.cond (.t 21) (c6_1) (.skip)))
  (c6_22)
def c6 : HCode :=
  .seq (.region none (⟨some 6, .mv 1 (.c (.nils)), none⟩ ::
    ⟨some 7, .mv 0 (.c (.int .i64 0)), none⟩ ::
    []))
  (c6_23)
theorem fc6 : funCode Try.prog 6 = some (c6, [6, 7], 89) := by kernel_rfl

def c7_1 : HCode :=
  .seq (.region none (⟨some 6, .mv 0 (.c (.bool false)), none⟩ ::
    []))
  (.ret)
def c7_2 : HCode :=
  .seq (.region none (⟨some 26, .mv 1 (.t 0), none⟩ ::
    ⟨some 27, .call 16 [(.t 26), (.c (.fn 17 []))], none⟩ ::
    ⟨some 28, .un .not (.t 27), none⟩ ::
    ⟨some 6, .mv 0 (.t 28), none⟩ ::
    []))
  (.ret)
def c7_3 : HCode :=
  .seq (.seq (.region none (⟨some 7, .mv 0 (.t 1), none⟩ ::
    ⟨some 8, .bin .lss (.t 7) (.c (.int .i64 3)), none⟩ ::
    ⟨some 9, .mv 0 (.t 8), none⟩ ::
    ⟨some 10, .mv 0 (.t 1), some (2, false)⟩ ::
    ⟨some 11, .bin .gtr (.t 10) (.c (.int .i64 256)), some (2, false)⟩ ::
    ⟨some 12, .pick (.t 9) (.c (.bool true)) (.t 11), none⟩ ::
    ⟨some 13, .mv 0 (.t 12), none⟩ ::
    ⟨some 14, .mv 0 (.t 2), some (6, false)⟩ ::
    ⟨some 15, .bin .lss (.t 14) (.c (.int .i64 1)), some (6, false)⟩ ::
    ⟨some 16, .pick (.t 13) (.c (.bool true)) (.t 15), none⟩ ::
    ⟨some 17, .mv 0 (.t 16), none⟩ ::
    ⟨some 18, .mv 0 (.t 2), some (10, false)⟩ ::
    ⟨some 19, .bin .gtr (.t 18) (.c (.int .i64 8)), some (10, false)⟩ ::
    ⟨some 20, .pick (.t 17) (.c (.bool true)) (.t 19), none⟩ ::
    ⟨some 21, .mv 0 (.t 20), none⟩ ::
    ⟨some 22, .mv 1 (.t 0), some (14, false)⟩ ::
    ⟨some 23, .len (.t 22), some (14, false)⟩ ::
    ⟨some 24, .bin .gtr (.t 23) (.c (.int .i64 512)), some (14, false)⟩ ::
    ⟨some 25, .pick (.t 21) (.c (.bool true)) (.t 24), none⟩ ::
    []))
  (.cond (.t 25) (c7_1) (.skip)))
  (c7_2)
def c7 : HCode :=
  .seq (.region none (⟨some 6, .mv 0 (.c (.bool false)), none⟩ ::
    []))
  (c7_3)
theorem fc7 : funCode Try.prog 7 = some (c7, [6], 29) := by kernel_rfl

def c8_1 : HCode :=
  .seq (.region none (⟨some 6, .mv 0 (.c (.bool false)), none⟩ ::
    []))
  (.ret)
def c8_2 : HCode :=
  .seq (.region none (⟨some 6, .mv 0 (.c (.bool false)), none⟩ ::
    []))
  (.ret)
def c8_3 : HCode :=
  .region none (⟨some 31, .mv 0 (.t 7), none⟩ ::
    ⟨some 32, .bin .add (.t 31) (.c (.int .i64 1)), none⟩ ::
    ⟨some 7, .mv 0 (.t 32), none⟩ ::
    [])
def c8_4 : HCode :=
  .seq (.block 1 (.seq (.region none (⟨some 33, .mv 1 (.t 0), none⟩ ::
      ⟨some 34, .mv 0 (.t 7), none⟩ ::
      ⟨some 35, .iaddr 1 (.t 33) (.t 34), none⟩ ::
      ⟨some 36, .load false 1 (.t 35), none⟩ ::
      ⟨some 37, .bin .lss (.t 36) (.c (.int .i64 1)), none⟩ ::
      ⟨some 38, .mv 0 (.t 37), none⟩ ::
      ⟨some 39, .mv 1 (.t 0), some (5, false)⟩ ::
      ⟨some 40, .mv 0 (.t 7), some (5, false)⟩ ::
      ⟨some 41, .iaddr 1 (.t 39) (.t 40), some (5, false)⟩ ::
      ⟨some 42, .load false 1 (.t 41), some (5, false)⟩ ::
      ⟨some 43, .bin .gtr (.t 42) (.c (.int .i64 512)), some (5, false)⟩ ::
      ⟨some 44, .pick (.t 38) (.c (.bool true)) (.t 43), none⟩ ::
      []))
    (.cond (.t 44) (c8_2) (.skip))))
  (c8_3)
def c8_5 : HCode :=
  .seq (.seq (.region none (⟨some 27, .mv 0 (.t 7), none⟩ ::
    ⟨some 28, .mv 1 (.t 0), none⟩ ::
    ⟨some 29, .len (.t 28), none⟩ ::
    ⟨some 30, .bin .lss (.t 27) (.t 29), none⟩ ::
    []))
  (.cond (.t 30) (.skip) (.exit 0)))
  (c8_4)
def c8_6 : HCode :=
  .seq (.region none (⟨some 6, .mv 0 (.c (.bool true)), none⟩ ::
    []))
  (.ret)
def c8_7 : HCode :=
  .seq (.seq (.region none (⟨some 7, .mv 0 (.c (.int .i64 0)), none⟩ ::
    []))
  (.block 0 (.loop (c8_5))))
  (c8_6)
def c8_8 : HCode :=
  .seq (.seq (.region none (⟨some 8, .mv 1 (.t 0), none⟩ ::
    ⟨some 9, .len (.t 8), none⟩ ::
    ⟨some 10, .bin .gtr (.t 9) (.c (.int .i64 512)), none⟩ ::
    ⟨some 11, .mv 0 (.t 10), none⟩ ::
    ⟨some 12, .mv 0 (.t 1), some (3, false)⟩ ::
    ⟨some 13, .bin .lss (.t 12) (.c (.int .i64 3)), some (3, false)⟩ ::
    ⟨some 14, .pick (.t 11) (.c (.bool true)) (.t 13), none⟩ ::
    ⟨some 15, .mv 0 (.t 14), none⟩ ::
    ⟨some 16, .mv 0 (.t 1), some (7, false)⟩ ::
    ⟨some 17, .bin .gtr (.t 16) (.c (.int .i64 256)), some (7, false)⟩ ::
    ⟨some 18, .pick (.t 15) (.c (.bool true)) (.t 17), none⟩ ::
    ⟨some 19, .mv 0 (.t 18), none⟩ ::
    ⟨some 20, .mv 0 (.t 2), some (11, false)⟩ ::
    ⟨some 21, .bin .lss (.t 20) (.c (.int .i64 1)), some (11, false)⟩ ::
    ⟨some 22, .pick (.t 19) (.c (.bool true)) (.t 21), none⟩ ::
    ⟨some 23, .mv 0 (.t 22), none⟩ ::
    ⟨some 24, .mv 0 (.t 2), some (15, false)⟩ ::
    ⟨some 25, .bin .gtr (.t 24) (.c (.int .i64 8)), some (15, false)⟩ ::
    ⟨some 26, .pick (.t 23) (.c (.bool true)) (.t 25), none⟩ ::
    []))
  (.cond (.t 26) (c8_1) (.skip)))
  (c8_7)
def c8 : HCode :=
  .seq (.region none (⟨some 6, .mv 0 (.c (.bool false)), none⟩ ::
    []))
  (c8_8)
theorem fc8 : funCode Try.prog 8 = some (c8, [6], 45) := by kernel_rfl

def c9_1 : HCode :=
  .seq (.region none (⟨some 4, .mv 0 (.c (.bool false)), none⟩ ::
    []))
  (.ret)
def c9_2 : HCode :=
  .seq (.region none (⟨some 4, .mv 0 (.c (.bool false)), none⟩ ::
    []))
  (.ret)
def c9_3 : HCode :=
  .seq (.region none (⟨some 4, .mv 0 (.c (.bool false)), none⟩ ::
    []))
  (.ret)
def c9_4 : HCode :=
  .region none (⟨some 36, .mv 0 (.t 6), none⟩ ::
    ⟨some 37, .bin .add (.t 36) (.c (.int .i64 1)), none⟩ ::
    ⟨some 6, .mv 0 (.t 37), none⟩ ::
    [])
def c9_5 : HCode :=
  .seq (.block 3 (.seq (.region (some [0, 0, 3, 7, 0, 31, 63, 0, 0, 384, 896, 0, 3968, 8064, 16383]) (⟨some 38, .mv 1 (.t 0), none⟩ ::
      ⟨some 39, .mv 0 (.t 5), none⟩ ::
      ⟨some 40, .iaddr 1 (.t 38) (.t 39), none⟩ ::
      ⟨some 41, .load false 1 (.t 40), none⟩ ::
      ⟨some 42, .mv 0 (.t 6), none⟩ ::
      ⟨some 43, .iaddr 3 (.t 41) (.t 42), none⟩ ::
      ⟨some 44, .load true 3 (.t 43), none⟩ ::
      ⟨some 45, .mv 1 (.t 1), none⟩ ::
      ⟨some 46, .mv 0 (.t 5), none⟩ ::
      ⟨some 47, .iaddr 1 (.t 45) (.t 46), none⟩ ::
      ⟨some 48, .load false 1 (.t 47), none⟩ ::
      ⟨some 49, .mv 0 (.t 6), none⟩ ::
      ⟨some 50, .iaddr 3 (.t 48) (.t 49), none⟩ ::
      ⟨some 51, .load true 3 (.t 50), none⟩ ::
      ⟨some 52, .aeq true 3 (.t 44) (.t 51), none⟩ ::
      []))
    (.cond (.t 52) (c9_3) (.skip))))
  (c9_4)
def c9_6 : HCode :=
  .seq (.seq (.region none (⟨some 29, .mv 0 (.t 6), none⟩ ::
    ⟨some 30, .mv 1 (.t 0), none⟩ ::
    ⟨some 31, .mv 0 (.t 5), none⟩ ::
    ⟨some 32, .iaddr 1 (.t 30) (.t 31), none⟩ ::
    ⟨some 33, .load false 1 (.t 32), none⟩ ::
    ⟨some 34, .len (.t 33), none⟩ ::
    ⟨some 35, .bin .lss (.t 29) (.t 34), none⟩ ::
    []))
  (.cond (.t 35) (.skip) (.exit 2)))
  (c9_5)
def c9_7 : HCode :=
  .seq (.region none (⟨some 6, .mv 0 (.c (.int .i64 0)), none⟩ ::
    []))
  (.block 2 (.loop (c9_6)))
def c9_8 : HCode :=
  .region none (⟨some 16, .mv 0 (.t 5), none⟩ ::
    ⟨some 17, .bin .add (.t 16) (.c (.int .i64 1)), none⟩ ::
    ⟨some 5, .mv 0 (.t 17), none⟩ ::
    [])
def c9_9 : HCode :=
  .seq (.block 1 (.seq (.seq (.region (some [0, 0, 3, 7, 15, 0, 0, 96, 224, 480, 1023]) (⟨some 18, .mv 1 (.t 0), none⟩ ::
      ⟨some 19, .mv 0 (.t 5), none⟩ ::
      ⟨some 20, .iaddr 1 (.t 18) (.t 19), none⟩ ::
      ⟨some 21, .load false 1 (.t 20), none⟩ ::
      ⟨some 22, .len (.t 21), none⟩ ::
      ⟨some 23, .mv 1 (.t 1), none⟩ ::
      ⟨some 24, .mv 0 (.t 5), none⟩ ::
      ⟨some 25, .iaddr 1 (.t 23) (.t 24), none⟩ ::
      ⟨some 26, .load false 1 (.t 25), none⟩ ::
      ⟨some 27, .len (.t 26), none⟩ ::
      ⟨some 28, .bin .neq (.t 22) (.t 27), none⟩ ::
      []))
    (.cond (.t 28) (c9_2) (.skip)))
    (c9_7)))
  (c9_8)
def c9_10 : HCode :=
  .seq (.seq (.region none (⟨some 12, .mv 0 (.t 5), none⟩ ::
    ⟨some 13, .mv 1 (.t 0), none⟩ ::
    ⟨some 14, .len (.t 13), none⟩ ::
    ⟨some 15, .bin .lss (.t 12) (.t 14), none⟩ ::
    []))
  (.cond (.t 15) (.skip) (.exit 0)))
  (c9_9)
def c9_11 : HCode :=
  .seq (.region none (⟨some 4, .mv 0 (.c (.bool true)), none⟩ ::
    []))
  (.ret)
def c9_12 : HCode :=
  .seq (.seq (.region none (⟨some 5, .mv 0 (.c (.int .i64 0)), none⟩ ::
    []))
  (.block 0 (.loop (c9_10))))
  (c9_11)
def c9_13 : HCode :=
  .seq (.seq (.region none (⟨some 7, .mv 1 (.t 0), none⟩ ::
    ⟨some 8, .len (.t 7), none⟩ ::
    ⟨some 9, .mv 1 (.t 1), none⟩ ::
    ⟨some 10, .len (.t 9), none⟩ ::
    ⟨some 11, .bin .neq (.t 8) (.t 10), none⟩ ::
    []))
  (.cond (.t 11) (c9_1) (.skip)))
  (c9_12)
def c9 : HCode :=
  .seq (.region none (⟨some 4, .mv 0 (.c (.bool false)), none⟩ ::
    []))
  (c9_13)
theorem fc9 : funCode Try.prog 9 = some (c9, [4], 53) := by kernel_rfl

def c10_1 : HCode :=
  .region none (⟨some 23, .mv 1 (.t 3), none⟩ ::
    ⟨some 24, .mv 0 (.t 5), none⟩ ::
    ⟨some 25, .bin .sub (.t 24) (.c (.int .i64 20)), none⟩ ::
    ⟨some 26, .bsl 1 1 [(.t 25)], none⟩ ::
    ⟨some 27, .app true 1 8 (.t 23) (.t 26), none⟩ ::
    ⟨some 3, .mv 1 (.t 27), none⟩ ::
    [])
def c10_2 : HCode :=
  .region none (⟨some 28, .mv 1 (.t 3), none⟩ ::
    ⟨some 29, .mv 0 (.t 5), none⟩ ::
    ⟨some 30, .bin .rem (.t 29) (.c (.int .i64 8)), none⟩ ::
    ⟨some 31, .bin .add (.c (.int .i64 1)) (.t 30), none⟩ ::
    ⟨some 32, .bsl 1 1 [(.t 31)], none⟩ ::
    ⟨some 33, .app true 1 8 (.t 28) (.t 32), none⟩ ::
    ⟨some 3, .mv 1 (.t 33), none⟩ ::
    [])
def c10_3 : HCode :=
  .seq (.region none (⟨some 21, .mv 0 (.t 5), none⟩ ::
    ⟨some 22, .bin .geq (.t 21) (.c (.int .i64 30)), none⟩ ::
    []))
  (.cond (.t 22) (c10_1) (c10_2))
def c10_4 : HCode :=
  .region none (⟨some 14, .mv 0 (.t 4), none⟩ ::
    ⟨some 15, .bin .add (.t 14) (.c (.int .i64 1)), none⟩ ::
    ⟨some 4, .mv 0 (.t 15), none⟩ ::
    [])
def c10_5 : HCode :=
  .seq (.block 1 (.seq (.region none (⟨some 16, .mv 1 (.t 0), none⟩ ::
      ⟨some 17, .mv 0 (.t 4), none⟩ ::
      ⟨some 18, .iaddr 1 (.t 16) (.t 17), none⟩ ::
      ⟨some 19, .load false 1 (.t 18), none⟩ ::
      ⟨some 20, .call 18 [(.t 19), (.c (.int .i64 40))], none⟩ ::
      ⟨some 5, .mv 0 (.t 20), none⟩ ::
      []))
    (c10_3)))
  (c10_4)
def c10_6 : HCode :=
  .seq (.seq (.region none (⟨some 6, .mv 0 (.t 4), none⟩ ::
    ⟨some 7, .mv 1 (.t 0), none⟩ ::
    ⟨some 8, .len (.t 7), none⟩ ::
    ⟨some 9, .bin .lss (.t 6) (.t 8), none⟩ ::
    ⟨some 10, .mv 0 (.t 9), none⟩ ::
    ⟨some 11, .mv 0 (.t 4), some (4, true)⟩ ::
    ⟨some 12, .bin .lss (.t 11) (.c (.int .i64 14)), some (4, true)⟩ ::
    ⟨some 13, .pick (.t 10) (.t 12) (.c (.bool false)), none⟩ ::
    []))
  (.cond (.t 13) (.skip) (.exit 0)))
  (c10_5)
def c10_7 : HCode :=
  .seq (.region none (⟨some 34, .mv 1 (.t 3), none⟩ ::
    ⟨some 2, .mv 1 (.t 34), none⟩ ::
    []))
  (.ret)
def c10_8 : HCode :=
  .seq (.seq (.region none (⟨some 4, .mv 0 (.c (.int .i64 0)), none⟩ ::
    []))
  (.block 0 (.loop (c10_6))))
  (c10_7)
def c10_9 : HCode :=
  .seq (.region none (⟨some 3, .mv 1 (.c (.nils)), none⟩ ::
    []))
  (c10_8)
def c10 : HCode :=
  .seq (.region none (⟨some 2, .mv 1 (.c (.nils)), none⟩ ::
    []))
  (c10_9)
theorem fc10 : funCode Try.prog 10 = some (c10, [2], 35) := by kernel_rfl

def c11_1 : HCode :=
  .seq (.region none (⟨some 6, .mv 0 (.t 0), none⟩ ::
    ⟨some 7, .call 18 [(.t 6), (.c (.int .i64 8))], none⟩ ::
    ⟨some 8, .bin .add (.c (.int .i64 3)) (.t 7), none⟩ ::
    ⟨some 9, .mv 0 (.t 1), none⟩ ::
    ⟨some 10, .call 18 [(.t 9), (.c (.int .i64 3))], none⟩ ::
    ⟨some 11, .bin .add (.c (.int .i64 1)) (.t 10), none⟩ ::
    ⟨some 4, .mv 0 (.t 8), none⟩ ::
    ⟨some 5, .mv 0 (.t 11), none⟩ ::
    []))
  (.ret)
def c11 : HCode :=
  .seq (.region none (⟨some 4, .mv 0 (.c (.int .i64 0)), none⟩ ::
    ⟨some 5, .mv 0 (.c (.int .i64 0)), none⟩ ::
    []))
  (c11_1)
theorem fc11 : funCode Try.prog 11 = some (c11, [4, 5], 12) := by kernel_rfl

def c12_1 : HCode :=
  .seq (.region none (⟨some 0, .mv 0 (.c (.bool false)), none⟩ ::
    []))
  (.ret)
def c12_2 : HCode :=
  .seq (.region none (⟨some 56, .mv 1 (.t 1), none⟩ ::
    ⟨some 57, .iaddr 1 (.t 56) (.c (.int .i64 1)), none⟩ ::
    ⟨some 58, .load false 1 (.t 57), none⟩ ::
    ⟨some 59, .iaddr 3 (.t 58) (.c (.int .i64 1)), none⟩ ::
    ⟨some 60, .load true 3 (.t 59), none⟩ ::
    ⟨some 61, .bld [.int .i64 0, .int .i64 0, .int .i64 0] [(2, 1, (.c (.int .i64 3)))], none⟩ ::
    ⟨some 62, .aeq false 3 (.t 60) (.t 61), none⟩ ::
    ⟨some 63, .mv 0 (.t 62), none⟩ ::
    ⟨some 64, .mv 1 (.t 1), some (7, true)⟩ ::
    ⟨some 65, .iaddr 1 (.t 64) (.c (.int .i64 1)), some (7, true)⟩ ::
    ⟨some 66, .load false 1 (.t 65), some (7, true)⟩ ::
    ⟨some 67, .iaddr 3 (.t 66) (.c (.int .i64 2)), some (7, true)⟩ ::
    ⟨some 68, .load true 3 (.t 67), some (7, true)⟩ ::
    ⟨some 69, .bld [.int .i64 0, .int .i64 0, .int .i64 0] [(0, 1, (.c (.int .i64 1)))], some (7, true)⟩ ::
    ⟨some 70, .aeq false 3 (.t 68) (.t 69), some (7, true)⟩ ::
    ⟨some 71, .pick (.t 63) (.t 70) (.c (.bool false)), none⟩ ::
    ⟨some 72, .mv 0 (.t 71), none⟩ ::
    ⟨some 73, .mv 1 (.t 3), some (16, true)⟩ ::
    ⟨some 74, .iaddr 1 (.t 73) (.c (.int .i64 3)), some (16, true)⟩ ::
    ⟨some 75, .load false 1 (.t 74), some (16, true)⟩ ::
    ⟨some 76, .iaddr 3 (.t 75) (.c (.int .i64 0)), some (16, true)⟩ ::
    ⟨some 77, .load true 3 (.t 76), some (16, true)⟩ ::
    ⟨some 78, .bld [.int .i64 0, .int .i64 0, .int .i64 0] [(1, 1, (.c (.int .i64 1)))], some (16, true)⟩ ::
    ⟨some 79, .aeq false 3 (.t 77) (.t 78), some (16, true)⟩ ::
    ⟨some 80, .pick (.t 72) (.t 79) (.c (.bool false)), none⟩ ::
    ⟨some 81, .mv 0 (.t 80), none⟩ ::
    ⟨some 82, .mv 1 (.t 1), some (25, true)⟩ ::
    ⟨some 83, .call 19 [(.t 82)], some (25, true)⟩ ::
    ⟨some 84, .bin .eql (.t 83) (.c (.int .i64 3)), some (25, true)⟩ ::
    ⟨some 85, .pick (.t 81) (.t 84) (.c (.bool false)), none⟩ ::
    ⟨some 86, .mv 0 (.t 85), none⟩ ::
    ⟨some 87, .mv 1 (.t 1), some (30, true)⟩ ::
    ⟨some 88, .call 20 [(.t 87)], some (30, true)⟩ ::
    ⟨some 89, .bin .eql (.t 88) (.c (.int .i64 3)), some (30, true)⟩ ::
    ⟨some 90, .pick (.t 86) (.t 89) (.c (.bool false)), none⟩ ::
    ⟨some 91, .mv 0 (.t 90), none⟩ ::
    ⟨some 92, .mv 1 (.t 3), some (35, true)⟩ ::
    ⟨some 93, .call 20 [(.t 92)], some (35, true)⟩ ::
    ⟨some 94, .bin .eql (.t 93) (.c (.int .i64 3)), some (35, true)⟩ ::
    ⟨some 95, .pick (.t 91) (.t 94) (.c (.bool false)), none⟩ ::
    ⟨some 96, .mv 0 (.t 95), none⟩ ::
    ⟨some 97, .bsl 1 3 [(.c (.int .i64 2)), (.c (.int .i64 5)), (.c (.int .i64 3))], some (40, true)⟩ ::
    ⟨some 98, .mv 1 (.t 1), some (40, true)⟩ ::
    ⟨some 99, .call 21 [(.t 97), (.c (.int .i64 4)), (.c (.int .i64 1)), (.t 98)], some (40, true)⟩ ::
    ⟨some 100, .bin .eql (.t 99) (.c (.int .i64 0)), some (40, true)⟩ ::
    ⟨some 101, .pick (.t 96) (.t 100) (.c (.bool false)), none⟩ ::
    ⟨some 102, .mv 0 (.t 101), none⟩ ::
    ⟨some 103, .bsl 1 1 [(.c (.int .i64 5))], some (46, true)⟩ ::
    ⟨some 104, .call 7 [(.t 103), (.c (.int .i64 3)), (.c (.int .i64 8))], some (46, true)⟩ ::
    ⟨some 105, .pick (.t 102) (.t 104) (.c (.bool false)), none⟩ ::
    ⟨some 0, .mv 0 (.t 105), none⟩ ::
    []))
  (.ret)
def c12_3 : HCode :=
  .seq (.seq (.region none (⟨some 22, .mv 0 (.t 2), none⟩ ::
    ⟨some 23, .bin .neq (.t 22) (.c (.int .i64 0)), none⟩ ::
    ⟨some 24, .mv 0 (.t 23), none⟩ ::
    ⟨some 25, .mv 0 (.t 4), some (2, false)⟩ ::
    ⟨some 26, .bin .neq (.t 25) (.c (.int .i64 0)), some (2, false)⟩ ::
    ⟨some 27, .pick (.t 24) (.c (.bool true)) (.t 26), none⟩ ::
    ⟨some 28, .mv 0 (.t 27), none⟩ ::
    ⟨some 29, .mv 0 (.t 6), some (6, false)⟩ ::
    ⟨some 30, .bin .neq (.t 29) (.c (.int .i64 1)), some (6, false)⟩ ::
    ⟨some 31, .pick (.t 28) (.c (.bool true)) (.t 30), none⟩ ::
    ⟨some 32, .mv 0 (.t 31), none⟩ ::
    ⟨some 33, .mv 1 (.t 1), some (10, false)⟩ ::
    ⟨some 34, .len (.t 33), some (10, false)⟩ ::
    ⟨some 35, .bin .neq (.t 34) (.c (.int .i64 3)), some (10, false)⟩ ::
    ⟨some 36, .pick (.t 32) (.c (.bool true)) (.t 35), none⟩ ::
    ⟨some 37, .mv 0 (.t 36), none⟩ ::
    ⟨some 38, .mv 1 (.t 3), some (15, false)⟩ ::
    ⟨some 39, .len (.t 38), some (15, false)⟩ ::
    ⟨some 40, .bin .neq (.t 39) (.c (.int .i64 5)), some (15, false)⟩ ::
    ⟨some 41, .pick (.t 37) (.c (.bool true)) (.t 40), none⟩ ::
    ⟨some 42, .mv 0 (.t 41), none⟩ ::
    ⟨some 43, .mv 1 (.t 1), some (20, false)⟩ ::
    ⟨some 44, .iaddr 1 (.t 43) (.c (.int .i64 1)), some (20, false)⟩ ::
    ⟨some 45, .load false 1 (.t 44), some (20, false)⟩ ::
    ⟨some 46, .len (.t 45), some (20, false)⟩ ::
    ⟨some 47, .bin .neq (.t 46) (.c (.int .i64 5)), some (20, false)⟩ ::
    ⟨some 48, .pick (.t 42) (.c (.bool true)) (.t 47), none⟩ ::
    ⟨some 49, .mv 0 (.t 48), none⟩ ::
    ⟨some 50, .mv 1 (.t 3), some (27, false)⟩ ::
    ⟨some 51, .iaddr 1 (.t 50) (.c (.int .i64 3)), some (27, false)⟩ ::
    ⟨some 52, .load false 1 (.t 51), some (27, false)⟩ ::
    ⟨some 53, .len (.t 52), some (27, false)⟩ ::
    ⟨some 54, .bin .neq (.t 53) (.c (.int .i64 1)), some (27, false)⟩ ::
    ⟨some 55, .pick (.t 49) (.c (.bool true)) (.t 54), none⟩ ::
    []))
  (.cond (.t 55) (c12_1) (.skip)))
  (c12_2)
def c12_4 : HCode :=
  .seq (.region none (⟨some 18, .bsl 1 1 [(.c (.int .i64 5))], none⟩ ::
    ⟨some 19, .call 5 [(.t 18), (.c (.int .i64 2)), (.c (.int .i64 1))], none⟩ ::
    ⟨some 17, .mv 0 (.t 19), none⟩ ::
    ⟨some 20, .ext (.t 17) 0, none⟩ ::
    ⟨some 21, .ext (.t 17) 1, none⟩ ::
    ⟨some 5, .mv 1 (.t 20), none⟩ ::
    ⟨some 6, .mv 0 (.t 21), none⟩ ::
    []))
  (c12_3)
def c12_5 : HCode :=
  .seq (.region none (⟨some 13, .bsl 1 5 [(.c (.int .i64 1)), (.c (.int .i64 1)), (.c (.int .i64 1)), (.c (.int .i64 1)), (.c (.int .i64 1))], none⟩ ::
    ⟨some 14, .call 5 [(.t 13), (.c (.int .i64 4)), (.c (.int .i64 2))], none⟩ ::
    ⟨some 12, .mv 0 (.t 14), none⟩ ::
    ⟨some 15, .ext (.t 12) 0, none⟩ ::
    ⟨some 16, .ext (.t 12) 1, none⟩ ::
    ⟨some 3, .mv 1 (.t 15), none⟩ ::
    ⟨some 4, .mv 0 (.t 16), none⟩ ::
    []))
  (c12_4)
def c12_6 : HCode :=
  .seq (.region none (⟨some 8, .bsl 1 3 [(.c (.int .i64 2)), (.c (.int .i64 5)), (.c (.int .i64 3))], none⟩ ::
    ⟨some 9, .call 5 [(.t 8), (.c (.int .i64 4)), (.c (.int .i64 1))], none⟩ ::
    ⟨some 7, .mv 0 (.t 9), none⟩ ::
    ⟨some 10, .ext (.t 7) 0, none⟩ ::
    ⟨some 11, .ext (.t 7) 1, none⟩ ::
    ⟨some 1, .mv 1 (.t 10), none⟩ ::
    ⟨some 2, .mv 0 (.t 11), none⟩ ::
    []))
  (c12_5)
def c12 : HCode :=
  .seq (.region none (⟨some 0, .mv 0 (.c (.bool false)), none⟩ ::
    []))
  (c12_6)
theorem fc12 : funCode Try.prog 12 = some (c12, [0], 106) := by kernel_rfl

def c13_1 : HCode :=
  .region none (⟨some 22, .mv 2 (.t 3), none⟩ ::
    ⟨some 23, .mv 0 (.t 7), none⟩ ::
    ⟨some 24, .mv 0 (.t 5), none⟩ ::
    ⟨some 25, .bin .eql (.t 23) (.t 24), none⟩ ::
    ⟨some 26, .mv 0 (.t 25), none⟩ ::
    ⟨some 27, .mv 0 (.t 7), some (4, false)⟩ ::
    ⟨some 28, .bin .geq (.t 27) (.c (.int .i64 2)), some (4, false)⟩ ::
    ⟨some 29, .mv 0 (.t 28), some (4, false)⟩ ::
    ⟨some 30, .mv 0 (.t 5), some (7, true)⟩ ::
    ⟨some 31, .mv 0 (.t 7), some (7, true)⟩ ::
    ⟨some 32, .bin .sub (.t 30) (.t 31), some (7, true)⟩ ::
    ⟨some 33, .bin .geq (.t 32) (.c (.int .i64 2)), some (7, true)⟩ ::
    ⟨some 34, .pick (.t 29) (.t 33) (.c (.bool false)), some (4, false)⟩ ::
    ⟨some 35, .pick (.t 26) (.c (.bool true)) (.t 34), none⟩ ::
    ⟨some 36, .mv 0 (.t 7), none⟩ ::
    ⟨some 37, .mv 0 (.t 5), none⟩ ::
    ⟨some 38, .bin .eql (.t 36) (.t 37), none⟩ ::
    ⟨some 39, .bld [.bool false, .bool false] [(0, 1, (.t 35)), (1, 1, (.t 38))], none⟩ ::
    ⟨some 40, .bsl 2 1 [(.t 39)], none⟩ ::
    ⟨some 41, .app true 2 2 (.t 22) (.t 40), none⟩ ::
    ⟨some 3, .mv 2 (.t 41), none⟩ ::
    [])
def c13_2 : HCode :=
  .seq (.region none (⟨some 20, .mv 0 (.t 6), none⟩ ::
    ⟨some 21, .bin .add (.t 20) (.c (.int .i64 1)), none⟩ ::
    ⟨some 7, .mv 0 (.t 21), none⟩ ::
    []))
  (c13_1)
def c13_3 : HCode :=
  .region none (⟨some 42, .bin .add (.t 17) (.c (.int .i64 1)), none⟩ ::
    ⟨some 17, .mv 0 (.t 42), none⟩ ::
    [])
def c13_4 : HCode :=
  .seq (.block 3 (.seq (.region none (⟨some 19, .mv 0 (.t 17), none⟩ ::
      ⟨some 6, .mv 0 (.t 19), none⟩ ::
      []))
    (c13_2)))
  (c13_3)
def c13_5 : HCode :=
  .seq (.region none (⟨some 18, .bin .lss (.t 17) (.t 16), none⟩ ::
    []))
  (.seq (.cond (.t 18) (.skip) (.exit 2))
  (c13_4))
def c13_6 : HCode :=
  .seq (.region none (⟨some 16, .mv 0 (.t 5), none⟩ ::
    ⟨some 17, .mv 0 (.c (.int .i64 0)), none⟩ ::
    []))
  (.block 2 (.loop (c13_5)))
def c13_7 : HCode :=
  .region none (⟨some 43, .bin .add (.t 12) (.c (.int .i64 1)), none⟩ ::
    ⟨some 12, .mv 0 (.t 43), none⟩ ::
    [])
def c13_8 : HCode :=
  .seq (.block 1 (.seq (.region none (⟨some 14, .iaddr 1 (.t 10) (.t 12), none⟩ ::
      ⟨some 15, .load false 1 (.t 14), none⟩ ::
      ⟨some 5, .mv 0 (.t 15), none⟩ ::
      []))
    (c13_6)))
  (c13_7)
def c13_9 : HCode :=
  .seq (.region none (⟨some 13, .bin .lss (.t 12) (.t 11), none⟩ ::
    []))
  (.seq (.cond (.t 13) (.skip) (.exit 0))
  (c13_8))
def c13_10 : HCode :=
  .seq (.region none (⟨some 44, .mv 2 (.t 3), none⟩ ::
    ⟨some 2, .mv 2 (.t 44), none⟩ ::
    []))
  (.ret)
def c13_11 : HCode :=
  .seq (.seq (.region none (⟨some 10, .mv 1 (.t 0), none⟩ ::
    ⟨some 11, .len (.t 10), none⟩ ::
    ⟨some 12, .mv 0 (.c (.int .i64 0)), none⟩ ::
    []))
  (.block 0 (.loop (c13_9))))
  (c13_10)
def c13_12 : HCode :=
  .seq (.region none (⟨some 8, .bld [.bool false, .bool false] [(0, 1, (.c (.bool true))), (1, 1, (.c (.bool true)))], none⟩ ::
    ⟨some 9, .bsl 2 1 [(.t 8)], none⟩ ::
    ⟨some 3, .mv 2 (.t 9), none⟩ ::
    []))
  (c13_11)
def c13 : HCode :=
  .seq (.region none (⟨some 2, .mv 2 (.c (.nils)), none⟩ ::
    []))
  (c13_12)
theorem fc13 : funCode Try.prog 13 = some (c13, [2], 45) := by kernel_rfl

def c14_1 : HCode :=
  .seq (.region none (⟨some 8, .mv 1 (.c (.nils)), none⟩ ::
    ⟨some 9, .mv 0 (.c (.bool false)), none⟩ ::
    []))
  (.ret)
def c14_2 : HCode :=
  .region none (⟨some 33, .mv 1 (.t 12), none⟩ ::
    ⟨some 34, .mv 0 (.t 13), none⟩ ::
    ⟨some 35, .bsl 1 1 [(.t 34)], none⟩ ::
    ⟨some 36, .app true 1 8 (.t 33) (.t 35), none⟩ ::
    ⟨some 12, .mv 1 (.t 36), none⟩ ::
    [])
def c14_3 : HCode :=
  .seq (.seq (.region none (⟨some 25, .mv 0 (.t 13), none⟩ ::
    ⟨some 26, .bin .lss (.t 25) (.c (.int .i64 0)), none⟩ ::
    ⟨some 27, .mv 0 (.t 26), none⟩ ::
    ⟨some 28, .mv 1 (.t 12), some (2, false)⟩ ::
    ⟨some 29, .len (.t 28), some (2, false)⟩ ::
    ⟨some 30, .mv 0 (.t 3), some (2, false)⟩ ::
    ⟨some 31, .bin .eql (.t 29) (.t 30), some (2, false)⟩ ::
    ⟨some 32, .pick (.t 27) (.c (.bool true)) (.t 31), none⟩ ::
    []))
  (.cond (.t 32) (c14_1) (.skip)))
  (c14_2)
def c14_4 : HCode :=
  .block 1 (.seq (.region none (⟨some 22, .mv 0 (.t 11), none⟩ ::
      ⟨some 23, .mv 0 (.t 13), none⟩ ::
      ⟨some 24, .callv (.t 22) [(.t 23)], none⟩ ::
      ⟨some 13, .mv 0 (.t 24), none⟩ ::
      []))
    (c14_3))
def c14_5 : HCode :=
  .seq (.seq (.region none (⟨some 19, .mv 0 (.t 13), none⟩ ::
    ⟨some 20, .load false 1 (.t 10), none⟩ ::
    ⟨some 21, .bin .lss (.t 19) (.t 20), none⟩ ::
    []))
  (.cond (.t 21) (.skip) (.exit 0)))
  (c14_4)
def c14_6 : HCode :=
  .seq (.region none (⟨some 37, .mv 1 (.t 12), none⟩ ::
    ⟨some 8, .mv 1 (.t 37), none⟩ ::
    ⟨some 9, .mv 0 (.c (.bool true)), none⟩ ::
    []))
  (.ret)
def c14_7 : HCode :=
  .seq (.seq (.region none (⟨some 18, .mv 0 (.t 1), none⟩ ::
    ⟨some 13, .mv 0 (.t 18), none⟩ ::
    []))
  (.block 0 (.loop (c14_5))))
  (c14_6)
def c14_8 : HCode :=
  .seq (.region none (⟨some 12, .mv 1 (.c (.nils)), none⟩ ::
    []))
  (c14_7)
def c14_9 : HCode :=
  .seq (.region none (⟨some 17, .mkfn 22 [(.t 10), (.t 6), (.t 4)], none⟩ ::
    ⟨some 11, .mv 0 (.t 17), none⟩ ::
    []))
  (c14_8)
def c14_10 : HCode :=
  .seq (.region none (⟨some 14, .load false 1 (.t 4), none⟩ ::
    ⟨some 15, .len (.t 14), none⟩ ::
    ⟨some 16, .bin .sub (.t 15) (.c (.int .i64 1)), none⟩ ::
    ⟨some 10, .newz [.int .i64 0], none⟩ ::
    ⟨none, .store true 1 (.t 10) (.t 16), none⟩ ::
    []))
  (c14_9)
def c14 : HCode :=
  .seq (.region none (⟨some 4, .newv 1 (.t 0), none⟩ ::
    ⟨some 6, .newv 1 (.t 2), none⟩ ::
    ⟨some 8, .mv 1 (.c (.nils)), none⟩ ::
    ⟨some 9, .mv 0 (.c (.bool false)), none⟩ ::
    []))
  (c14_10)
theorem fc14 : funCode Try.prog 14 = some (c14, [8, 9], 38) := by kernel_rfl

def c15_1 : HCode :=
  .seq (.region none (⟨some 6, .mv 1 (.c (.nils)), none⟩ ::
    ⟨some 7, .mv 0 (.c (.int .i64 4)), none⟩ ::
    []))
  (.ret)
def c15_2 : HCode :=
  .seq (.region none (⟨some 55, .mv 1 (.t 15), none⟩ ::
    ⟨some 56, .mv 1 (.t 8), none⟩ ::
    ⟨some 57, .mv 0 (.t 11), none⟩ ::
    ⟨some 58, .slc 1 (.t 56) none (some (.t 57)), none⟩ ::
    ⟨some 59, .app true 1 8 (.t 55) (.t 58), none⟩ ::
    ⟨some 60, .mv 1 (.t 13), none⟩ ::
    ⟨some 61, .app true 1 8 (.t 59) (.t 60), none⟩ ::
    ⟨some 6, .mv 1 (.t 61), none⟩ ::
    ⟨some 7, .mv 0 (.c (.int .i64 0)), none⟩ ::
    []))
  (.ret)
def c15_3 : HCode :=
  .seq (.region none (⟨some 15, .mv 1 (.c (.nils)), none⟩ ::
    []))
  (c15_2)
def c15_4 : HCode :=
  .seq (.region none (⟨some 48, .mv 0 (.t 14), none⟩ ::
    ⟨some 49, .mv 0 (.t 48), none⟩ ::
    ⟨some 50, .mv 1 (.t 13), some (1, true)⟩ ::
    ⟨some 51, .len (.t 50), some (1, true)⟩ ::
    ⟨some 52, .mv 0 (.t 2), some (1, true)⟩ ::
    ⟨some 53, .bin .leq (.t 51) (.t 52), some (1, true)⟩ ::
    ⟨some 54, .pick (.t 49) (.t 53) (.c (.bool false)), none⟩ ::
    []))
  (.cond (.t 54) (c15_3) (.skip))
def c15_5 : HCode :=
  .region none (⟨some 38, .mv 0 (.t 12), none⟩ ::
    ⟨some 39, .bin .add (.t 38) (.c (.int .i64 1)), none⟩ ::
    ⟨some 12, .mv 0 (.t 39), none⟩ ::
    [])
def c15_6 : HCode :=
  .seq (.block 1 (.seq (.region none (⟨some 41, .mv 1 (.t 0), none⟩ ::
      ⟨some 42, .mv 0 (.t 10), none⟩ ::
      ⟨some 43, .mv 0 (.t 12), none⟩ ::
      ⟨some 44, .mv 0 (.t 2), none⟩ ::
      ⟨some 45, .call 23 [(.t 41), (.t 42), (.t 43), (.t 44)], none⟩ ::
      ⟨some 40, .mv 0 (.t 45), none⟩ ::
      ⟨some 46, .ext (.t 40) 0, none⟩ ::
      ⟨some 47, .ext (.t 40) 1, none⟩ ::
      ⟨some 13, .mv 1 (.t 46), none⟩ ::
      ⟨some 14, .mv 0 (.t 47), none⟩ ::
      []))
    (c15_4)))
  (c15_5)
def c15_7 : HCode :=
  .seq (.seq (.region none (⟨some 35, .mv 0 (.t 12), none⟩ ::
    ⟨some 36, .mv 0 (.t 1), none⟩ ::
    ⟨some 37, .bin .leq (.t 35) (.t 36), none⟩ ::
    []))
  (.cond (.t 37) (.skip) (.exit 0)))
  (c15_6)
def c15_8 : HCode :=
  .seq (.region none (⟨some 62, .mv 1 (.t 8), none⟩ ::
    ⟨some 6, .mv 1 (.t 62), none⟩ ::
    ⟨some 7, .mv 0 (.c (.int .i64 0)), none⟩ ::
    []))
  (.ret)
def c15_9 : HCode :=
  .seq (.seq (.region none (⟨some 12, .mv 0 (.c (.int .i64 1)), none⟩ ::
    []))
  (.block 0 (.loop (c15_7))))
  (c15_8)
def c15_10 : HCode :=
  .seq (.region none (⟨some 30, .mv 1 (.t 8), none⟩ ::
    ⟨some 31, .mv 0 (.t 2), none⟩ ::
    ⟨some 32, .call 24 [(.t 30), (.t 31)], none⟩ ::
    ⟨some 29, .mv 0 (.t 32), none⟩ ::
    ⟨some 33, .ext (.t 29) 0, none⟩ ::
    ⟨some 34, .ext (.t 29) 1, none⟩ ::
    ⟨some 10, .mv 0 (.t 33), none⟩ ::
    ⟨some 11, .mv 0 (.t 34), none⟩ ::
    []))
  (c15_9)
def c15_11 : HCode :=
  .seq (.seq (.region none (⟨some 24, .mv 1 (.t 8), none⟩ ::
    ⟨some 25, .len (.t 24), none⟩ ::
    ⟨some 26, .mv 0 (.t 2), none⟩ ::
    ⟨some 27, .bin .mul (.c (.int .i64 64)) (.t 26), none⟩ ::
    ⟨some 28, .bin .gtr (.t 25) (.t 27), none⟩ ::
    []))
  (.cond (.t 28) (c15_1) (.skip)))
  (c15_10)
def c15_12 : HCode :=
  .seq (.region none (⟨some 17, .mv 1 (.t 0), none⟩ ::
    ⟨some 18, .mv 0 (.t 1), none⟩ ::
    ⟨some 19, .mv 0 (.t 2), none⟩ ::
    ⟨some 20, .bin .mul (.c (.int .i64 64)) (.t 19), none⟩ ::
    ⟨some 21, .call 23 [(.t 17), (.c (.int .i64 0)), (.t 18), (.t 20)], none⟩ ::
    ⟨some 16, .mv 0 (.t 21), none⟩ ::
    ⟨some 22, .ext (.t 16) 0, none⟩ ::
    ⟨some 23, .ext (.t 16) 1, none⟩ ::
    ⟨some 8, .mv 1 (.t 22), none⟩ ::
    ⟨some 9, .mv 0 (.t 23), none⟩ ::
    []))
  (c15_11)
def c15 : HCode :=
  .seq (.region none (⟨some 6, .mv 1 (.c (.nils)), none⟩ ::
    ⟨some 7, .mv 0 (.c (.int .i64 0)), none⟩ ::
    []))
  (c15_12)
theorem fc15 : funCode Try.prog 15 = some (c15, [6, 7], 63) := by kernel_rfl

def c16_1 : HCode :=
  .seq (.region none (⟨some 5, .mv 1 (.t 0), none⟩ ::
    ⟨some 6, .mv 0 (.t 1), none⟩ ::
    ⟨some 7, .call 25 [(.t 5), (.t 6)], none⟩ ::
    ⟨some 8, .bin .geq (.t 7) (.c (.int .i64 0)), none⟩ ::
    ⟨some 4, .mv 0 (.t 8), none⟩ ::
    []))
  (.ret)
def c16 : HCode :=
  .seq (.region none (⟨some 4, .mv 0 (.c (.bool false)), none⟩ ::
    []))
  (c16_1)
theorem fc16 : funCode Try.prog 16 = some (c16, [4], 9) := by kernel_rfl

def c17_1 : HCode :=
  .seq (.region none (⟨some 3, .mv 0 (.t 0), none⟩ ::
    ⟨some 4, .bin .lss (.t 3) (.c (.int .i64 1)), none⟩ ::
    ⟨some 5, .mv 0 (.t 4), none⟩ ::
    ⟨some 6, .mv 0 (.t 0), some (2, false)⟩ ::
    ⟨some 7, .bin .gtr (.t 6) (.c (.int .i64 512)), some (2, false)⟩ ::
    ⟨some 8, .pick (.t 5) (.c (.bool true)) (.t 7), none⟩ ::
    ⟨some 2, .mv 0 (.t 8), none⟩ ::
    []))
  (.ret)
def c17 : HCode :=
  .seq (.region none (⟨some 2, .mv 0 (.c (.bool false)), none⟩ ::
    []))
  (c17_1)
theorem fc17 : funCode Try.prog 17 = some (c17, [2], 9) := by kernel_rfl

def c18_1 : HCode :=
  .region none (⟨some 7, .mv 0 (.t 0), none⟩ ::
    ⟨some 8, .bin .add (.t 7) (.c (.int .i64 1)), none⟩ ::
    ⟨some 9, .un .neg (.t 8), none⟩ ::
    ⟨some 0, .mv 0 (.t 9), none⟩ ::
    [])
def c18_2 : HCode :=
  .seq (.region none (⟨some 10, .mv 0 (.t 0), none⟩ ::
    ⟨some 11, .mv 0 (.t 1), none⟩ ::
    ⟨some 12, .bin .rem (.t 10) (.t 11), none⟩ ::
    ⟨some 4, .mv 0 (.t 12), none⟩ ::
    []))
  (.ret)
def c18_3 : HCode :=
  .seq (.seq (.region none (⟨some 5, .mv 0 (.t 0), none⟩ ::
    ⟨some 6, .bin .lss (.t 5) (.c (.int .i64 0)), none⟩ ::
    []))
  (.cond (.t 6) (c18_1) (.skip)))
  (c18_2)
def c18 : HCode :=
  .seq (.region none (⟨some 4, .mv 0 (.c (.int .i64 0)), none⟩ ::
    []))
  (c18_3)
theorem fc18 : funCode Try.prog 18 = some (c18, [4], 13) := by kernel_rfl

def c19_1 : HCode :=
  .region none (⟨some 28, .mv 0 (.t 3), none⟩ ::
    ⟨some 29, .faddr 0 (.t 7), none⟩ ::
    ⟨some 30, .load false 1 (.t 29), none⟩ ::
    ⟨some 31, .bin .add (.t 30) (.c (.int .i64 1)), none⟩ ::
    ⟨some 32, .mm true (.t 28) (.t 31), none⟩ ::
    ⟨some 3, .mv 0 (.t 32), none⟩ ::
    [])
def c19_2 : HCode :=
  .seq (.region none (⟨some 20, .faddr 0 (.t 7), none⟩ ::
    ⟨some 21, .load false 1 (.t 20), none⟩ ::
    ⟨some 22, .bin .geq (.t 21) (.c (.int .i64 0)), none⟩ ::
    ⟨some 23, .mv 0 (.t 22), none⟩ ::
    ⟨some 24, .faddr 0 (.t 7), some (3, true)⟩ ::
    ⟨some 25, .load false 1 (.t 24), some (3, true)⟩ ::
    ⟨some 26, .bin .lss (.t 25) (.c (.int .i64 64)), some (3, true)⟩ ::
    ⟨some 27, .pick (.t 23) (.t 26) (.c (.bool false)), none⟩ ::
    []))
  (.cond (.t 27) (c19_1) (.skip))
def c19_3 : HCode :=
  .region none (⟨some 33, .bin .add (.t 16) (.c (.int .i64 1)), none⟩ ::
    ⟨some 16, .mv 0 (.t 33), none⟩ ::
    [])
def c19_4 : HCode :=
  .seq (.block 3 (.seq (.region none (⟨some 18, .iaddr 3 (.t 14) (.t 16), none⟩ ::
      ⟨some 19, .load true 3 (.t 18), none⟩ ::
      ⟨some 7, .newz [.int .i64 0, .int .i64 0, .int .i64 0], none⟩ ::
      ⟨none, .store true 3 (.t 7) (.t 19), none⟩ ::
      []))
    (c19_2)))
  (c19_3)
def c19_5 : HCode :=
  .seq (.region none (⟨some 17, .bin .lss (.t 16) (.t 15), none⟩ ::
    []))
  (.seq (.cond (.t 17) (.skip) (.exit 2))
  (c19_4))
def c19_6 : HCode :=
  .seq (.region none (⟨some 14, .mv 3 (.t 5), none⟩ ::
    ⟨some 15, .len (.t 14), none⟩ ::
    ⟨some 16, .mv 0 (.c (.int .i64 0)), none⟩ ::
    []))
  (.block 2 (.loop (c19_5)))
def c19_7 : HCode :=
  .region none (⟨some 34, .bin .add (.t 10) (.c (.int .i64 1)), none⟩ ::
    ⟨some 10, .mv 0 (.t 34), none⟩ ::
    [])
def c19_8 : HCode :=
  .seq (.block 1 (.seq (.region none (⟨some 12, .iaddr 1 (.t 8) (.t 10), none⟩ ::
      ⟨some 13, .load false 1 (.t 12), none⟩ ::
      ⟨some 5, .mv 3 (.t 13), none⟩ ::
      []))
    (c19_6)))
  (c19_7)
def c19_9 : HCode :=
  .seq (.region none (⟨some 11, .bin .lss (.t 10) (.t 9), none⟩ ::
    []))
  (.seq (.cond (.t 11) (.skip) (.exit 0))
  (c19_8))
def c19_10 : HCode :=
  .seq (.region none (⟨some 35, .mv 0 (.t 3), none⟩ ::
    ⟨some 2, .mv 0 (.t 35), none⟩ ::
    []))
  (.ret)
def c19_11 : HCode :=
  .seq (.seq (.region none (⟨some 8, .mv 1 (.t 0), none⟩ ::
    ⟨some 9, .len (.t 8), none⟩ ::
    ⟨some 10, .mv 0 (.c (.int .i64 0)), none⟩ ::
    []))
  (.block 0 (.loop (c19_9))))
  (c19_10)
def c19_12 : HCode :=
  .seq (.region none (⟨some 3, .mv 0 (.c (.int .i64 0)), none⟩ ::
    []))
  (c19_11)
def c19 : HCode :=
  .seq (.region none (⟨some 2, .mv 0 (.c (.int .i64 0)), none⟩ ::
    []))
  (c19_12)
theorem fc19 : funCode Try.prog 19 = some (c19, [2], 36) := by kernel_rfl

def c20_1 : HCode :=
  .region none (⟨some 42, .mv 0 (.t 3), none⟩ ::
    ⟨some 43, .faddr 2 (.t 8), none⟩ ::
    ⟨some 44, .load false 1 (.t 43), none⟩ ::
    ⟨some 45, .bin .add (.t 44) (.c (.int .i64 1)), none⟩ ::
    ⟨some 46, .mm true (.t 42) (.t 45), none⟩ ::
    ⟨some 3, .mv 0 (.t 46), none⟩ ::
    [])
def c20_2 : HCode :=
  .seq (.region none (⟨some 24, .faddr 0 (.t 8), none⟩ ::
    ⟨some 25, .load false 1 (.t 24), none⟩ ::
    ⟨some 26, .mv 0 (.t 4), none⟩ ::
    ⟨some 27, .bin .eql (.t 25) (.t 26), none⟩ ::
    ⟨some 28, .mv 0 (.t 27), none⟩ ::
    ⟨some 29, .mv 0 (.t 4), some (4, true)⟩ ::
    ⟨some 30, .bin .geq (.t 29) (.c (.int .i64 0)), some (4, true)⟩ ::
    ⟨some 31, .pick (.t 28) (.t 30) (.c (.bool false)), none⟩ ::
    ⟨some 32, .mv 0 (.t 31), none⟩ ::
    ⟨some 33, .faddr 2 (.t 8), some (8, true)⟩ ::
    ⟨some 34, .load false 1 (.t 33), some (8, true)⟩ ::
    ⟨some 35, .bin .geq (.t 34) (.c (.int .i64 0)), some (8, true)⟩ ::
    ⟨some 36, .pick (.t 32) (.t 35) (.c (.bool false)), none⟩ ::
    ⟨some 37, .mv 0 (.t 36), none⟩ ::
    ⟨some 38, .faddr 2 (.t 8), some (13, true)⟩ ::
    ⟨some 39, .load false 1 (.t 38), some (13, true)⟩ ::
    ⟨some 40, .bin .lss (.t 39) (.c (.int .i64 256)), some (13, true)⟩ ::
    ⟨some 41, .pick (.t 37) (.t 40) (.c (.bool false)), none⟩ ::
    []))
  (.cond (.t 41) (c20_1) (.skip))
def c20_3 : HCode :=
  .region none (⟨some 47, .bin .add (.t 20) (.c (.int .i64 1)), none⟩ ::
    ⟨some 20, .mv 0 (.t 47), none⟩ ::
    [])
def c20_4 : HCode :=
  .seq (.block 3 (.seq (.region none (⟨some 22, .iaddr 3 (.t 18) (.t 20), none⟩ ::
      ⟨some 23, .load true 3 (.t 22), none⟩ ::
      ⟨some 8, .newz [.int .i64 0, .int .i64 0, .int .i64 0], none⟩ ::
      ⟨none, .store true 3 (.t 8) (.t 23), none⟩ ::
      []))
    (c20_2)))
  (c20_3)
def c20_5 : HCode :=
  .seq (.region none (⟨some 21, .bin .lss (.t 20) (.t 19), none⟩ ::
    []))
  (.seq (.cond (.t 21) (.skip) (.exit 2))
  (c20_4))
def c20_6 : HCode :=
  .seq (.region none (⟨some 18, .mv 3 (.t 6), none⟩ ::
    ⟨some 19, .len (.t 18), none⟩ ::
    ⟨some 20, .mv 0 (.c (.int .i64 0)), none⟩ ::
    []))
  (.block 2 (.loop (c20_5)))
def c20_7 : HCode :=
  .region none (⟨some 48, .bin .add (.t 14) (.c (.int .i64 1)), none⟩ ::
    ⟨some 14, .mv 0 (.t 48), none⟩ ::
    [])
def c20_8 : HCode :=
  .seq (.block 1 (.seq (.region none (⟨some 16, .iaddr 1 (.t 12) (.t 14), none⟩ ::
      ⟨some 17, .load false 1 (.t 16), none⟩ ::
      ⟨some 6, .mv 3 (.t 17), none⟩ ::
      []))
    (c20_6)))
  (c20_7)
def c20_9 : HCode :=
  .seq (.region none (⟨some 15, .bin .lss (.t 14) (.t 13), none⟩ ::
    []))
  (.seq (.cond (.t 15) (.skip) (.exit 0))
  (c20_8))
def c20_10 : HCode :=
  .seq (.region none (⟨some 49, .mv 0 (.t 3), none⟩ ::
    ⟨some 2, .mv 0 (.t 49), none⟩ ::
    []))
  (.ret)
def c20_11 : HCode :=
  .seq (.seq (.region none (⟨some 12, .mv 1 (.t 0), none⟩ ::
    ⟨some 13, .len (.t 12), none⟩ ::
    ⟨some 14, .mv 0 (.c (.int .i64 0)), none⟩ ::
    []))
  (.block 0 (.loop (c20_9))))
  (c20_10)
def c20_12 : HCode :=
  .seq (.region none (⟨some 9, .mv 1 (.t 0), none⟩ ::
    ⟨some 10, .call 19 [(.t 9)], none⟩ ::
    ⟨some 11, .bin .sub (.t 10) (.c (.int .i64 1)), none⟩ ::
    ⟨some 3, .mv 0 (.c (.int .i64 0)), none⟩ ::
    ⟨some 4, .mv 0 (.t 11), none⟩ ::
    []))
  (c20_11)
def c20 : HCode :=
  .seq (.region none (⟨some 2, .mv 0 (.c (.int .i64 0)), none⟩ ::
    []))
  (c20_12)
theorem fc20 : funCode Try.prog 20 = some (c20, [2], 50) := by kernel_rfl

def c21_1 : HCode :=
  .seq (.region none (⟨some 20, .mv 0 (.t 10), none⟩ ::
    ⟨some 8, .mv 0 (.t 20), none⟩ ::
    []))
  (.ret)
def c21_2 : HCode :=
  .seq (.region none (⟨some 8, .mv 0 (.c (.int .i64 24)), none⟩ ::
    []))
  (.ret)
def c21_3 : HCode :=
  .seq (.region none (⟨some 8, .mv 0 (.c (.int .i64 0)), none⟩ ::
    []))
  (.ret)
def c21_4 : HCode :=
  .seq (.seq (.region none (⟨some 21, .mv 1 (.t 9), none⟩ ::
    ⟨some 22, .mv 1 (.t 3), none⟩ ::
    ⟨some 23, .call 26 [(.t 21), (.t 22), (.c (.fn 27 []))], none⟩ ::
    ⟨some 24, .un .not (.t 23), none⟩ ::
    []))
  (.cond (.t 24) (c21_2) (.skip)))
  (c21_3)
def c21_5 : HCode :=
  .seq (.seq (.region none (⟨some 18, .mv 0 (.t 10), none⟩ ::
    ⟨some 19, .bin .neq (.t 18) (.c (.int .i64 0)), none⟩ ::
    []))
  (.cond (.t 19) (c21_1) (.skip)))
  (c21_4)
def c21_6 : HCode :=
  .seq (.region none (⟨some 12, .mv 1 (.t 0), none⟩ ::
    ⟨some 13, .mv 0 (.t 1), none⟩ ::
    ⟨some 14, .mv 0 (.t 2), none⟩ ::
    ⟨some 15, .call 5 [(.t 12), (.t 13), (.t 14)], none⟩ ::
    ⟨some 11, .mv 0 (.t 15), none⟩ ::
    ⟨some 16, .ext (.t 11) 0, none⟩ ::
    ⟨some 17, .ext (.t 11) 1, none⟩ ::
    ⟨some 9, .mv 1 (.t 16), none⟩ ::
    ⟨some 10, .mv 0 (.t 17), none⟩ ::
    []))
  (c21_5)
def c21 : HCode :=
  .seq (.region none (⟨some 8, .mv 0 (.c (.int .i64 0)), none⟩ ::
    []))
  (c21_6)
theorem fc21 : funCode Try.prog 21 = some (c21, [8], 25) := by kernel_rfl

def c22_1 : HCode :=
  .seq (.region none (⟨some 35, .mv 0 (.t 6), none⟩ ::
    ⟨some 5, .mv 0 (.t 35), none⟩ ::
    []))
  (.ret)
def c22_2 : HCode :=
  .region none (⟨some 15, .mv 0 (.t 6), none⟩ ::
    ⟨some 16, .bin .sub (.t 15) (.c (.int .i64 1)), none⟩ ::
    ⟨some 6, .mv 0 (.t 16), none⟩ ::
    [])
def c22_3 : HCode :=
  .seq (.block 1 (.seq (.region none (⟨some 17, .load false 1 (.t 3), none⟩ ::
      ⟨some 18, .mv 0 (.t 6), none⟩ ::
      ⟨some 19, .iaddr 2 (.t 17) (.t 18), none⟩ ::
      ⟨some 20, .faddr 0 (.t 19), none⟩ ::
      ⟨some 21, .load false 1 (.t 20), none⟩ ::
      ⟨some 22, .mv 0 (.t 21), none⟩ ::
      ⟨some 23, .mv 0 (.t 6), some (5, true)⟩ ::
      ⟨some 24, .mv 0 (.t 0), some (5, true)⟩ ::
      ⟨some 25, .bin .add (.t 24) (.c (.int .i64 1)), some (5, true)⟩ ::
      ⟨some 26, .bin .gtr (.t 23) (.t 25), some (5, true)⟩ ::
      ⟨some 27, .mv 0 (.t 26), some (5, true)⟩ ::
      ⟨some 28, .load false 1 (.t 3), some (10, false)⟩ ::
      ⟨some 29, .mv 0 (.t 0), some (10, false)⟩ ::
      ⟨some 30, .iaddr 2 (.t 28) (.t 29), some (10, false)⟩ ::
      ⟨some 31, .faddr 1 (.t 30), some (10, false)⟩ ::
      ⟨some 32, .load false 1 (.t 31), some (10, false)⟩ ::
      ⟨some 33, .pick (.t 27) (.c (.bool true)) (.t 32), some (5, true)⟩ ::
      ⟨some 34, .pick (.t 22) (.t 33) (.c (.bool false)), none⟩ ::
      []))
    (.cond (.t 34) (c22_1) (.skip))))
  (c22_2)
def c22_4 : HCode :=
  .seq (.seq (.region none (⟨some 12, .mv 0 (.t 6), none⟩ ::
    ⟨some 13, .mv 0 (.t 0), none⟩ ::
    ⟨some 14, .bin .gtr (.t 12) (.t 13), none⟩ ::
    []))
  (.cond (.t 14) (.skip) (.exit 0)))
  (c22_3)
def c22_5 : HCode :=
  .seq (.region none (⟨some 5, .mv 0 (.c (.int .i64 (-1))), none⟩ ::
    []))
  (.ret)
def c22_6 : HCode :=
  .seq (.seq (.region none (⟨some 7, .load false 1 (.t 1), none⟩ ::
    ⟨some 8, .mv 0 (.t 0), none⟩ ::
    ⟨some 9, .load false 1 (.t 2), none⟩ ::
    ⟨some 10, .bin .add (.t 8) (.t 9), none⟩ ::
    ⟨some 11, .mm false (.t 7) (.t 10), none⟩ ::
    ⟨some 6, .mv 0 (.t 11), none⟩ ::
    []))
  (.block 0 (.loop (c22_4))))
  (c22_5)
def c22 : HCode :=
  .seq (.region none (⟨some 5, .mv 0 (.c (.int .i64 0)), none⟩ ::
    []))
  (c22_6)
theorem fc22 : funCode Try.prog 22 = some (c22, [5], 36) := by kernel_rfl

def c23_1 : HCode :=
  .seq (.region none (⟨some 8, .mv 1 (.c (.nils)), none⟩ ::
    ⟨some 9, .mv 0 (.c (.bool false)), none⟩ ::
    []))
  (.ret)
def c23_2 : HCode :=
  .region none (⟨some 37, .mv 1 (.t 12), none⟩ ::
    ⟨some 38, .mv 0 (.t 13), none⟩ ::
    ⟨some 39, .bsl 1 1 [(.t 38)], none⟩ ::
    ⟨some 40, .app true 1 8 (.t 37) (.t 39), none⟩ ::
    ⟨some 12, .mv 1 (.t 40), none⟩ ::
    [])
def c23_3 : HCode :=
  .seq (.seq (.region none (⟨some 35, .mv 0 (.t 13), none⟩ ::
    ⟨some 36, .bin .lss (.t 35) (.c (.int .i64 0)), none⟩ ::
    []))
  (.cond (.t 36) (c23_1) (.skip)))
  (c23_2)
def c23_4 : HCode :=
  .block 1 (.seq (.region none (⟨some 30, .mv 1 (.t 10), none⟩ ::
      ⟨some 31, .mv 1 (.t 11), none⟩ ::
      ⟨some 32, .mv 0 (.t 13), none⟩ ::
      ⟨some 33, .mv 0 (.t 2), none⟩ ::
      ⟨some 34, .call 30 [(.t 30), (.t 31), (.t 32), (.t 33)], none⟩ ::
      ⟨some 13, .mv 0 (.t 34), none⟩ ::
      []))
    (c23_3))
def c23_5 : HCode :=
  .seq (.seq (.region none (⟨some 19, .mv 0 (.t 13), none⟩ ::
    ⟨some 20, .mv 1 (.t 10), none⟩ ::
    ⟨some 21, .len (.t 20), none⟩ ::
    ⟨some 22, .bin .sub (.t 21) (.c (.int .i64 1)), none⟩ ::
    ⟨some 23, .bin .lss (.t 19) (.t 22), none⟩ ::
    ⟨some 24, .mv 0 (.t 23), none⟩ ::
    ⟨some 25, .mv 1 (.t 12), some (5, true)⟩ ::
    ⟨some 26, .len (.t 25), some (5, true)⟩ ::
    ⟨some 27, .mv 0 (.t 3), some (5, true)⟩ ::
    ⟨some 28, .bin .leq (.t 26) (.t 27), some (5, true)⟩ ::
    ⟨some 29, .pick (.t 24) (.t 28) (.c (.bool false)), none⟩ ::
    []))
  (.cond (.t 29) (.skip) (.exit 0)))
  (c23_4)
def c23_6 : HCode :=
  .seq (.region none (⟨some 41, .mv 1 (.t 12), none⟩ ::
    ⟨some 8, .mv 1 (.t 41), none⟩ ::
    ⟨some 9, .mv 0 (.c (.bool true)), none⟩ ::
    []))
  (.ret)
def c23_7 : HCode :=
  .seq (.region none (⟨some 18, .mv 0 (.t 1), none⟩ ::
    ⟨some 13, .mv 0 (.t 18), none⟩ ::
    []))
  (.seq (.block 0 (.loop (c23_5)))
  (c23_6))
def c23_8 : HCode :=
  .seq (.region none (⟨some 12, .mv 1 (.c (.nils)), none⟩ ::
    []))
  (c23_7)
def c23_9 : HCode :=
  .seq (.region none (⟨some 16, .mv 1 (.t 0), none⟩ ::
    ⟨some 17, .call 29 [(.t 16)], none⟩ ::
    ⟨some 11, .mv 1 (.t 17), none⟩ ::
    []))
  (c23_8)
def c23_10 : HCode :=
  .seq (.region none (⟨some 14, .mv 1 (.t 0), none⟩ ::
    ⟨some 15, .call 28 [(.t 14)], none⟩ ::
    ⟨some 10, .mv 1 (.t 15), none⟩ ::
    []))
  (c23_9)
def c23 : HCode :=
  .seq (.region none (⟨some 8, .mv 1 (.c (.nils)), none⟩ ::
    ⟨some 9, .mv 0 (.c (.bool false)), none⟩ ::
    []))
  (c23_10)
theorem fc23 : funCode Try.prog 23 = some (c23, [8, 9], 42) := by kernel_rfl

def c24_1 : HCode :=
  .seq (.region none (⟨some 4, .mv 0 (.c (.int .i64 0)), none⟩ ::
    ⟨some 5, .mv 0 (.c (.int .i64 0)), none⟩ ::
    []))
  (.ret)
def c24_2 : HCode :=
  .seq (.region none (⟨some 4, .mv 0 (.c (.int .i64 0)), none⟩ ::
    ⟨some 5, .mv 0 (.c (.int .i64 0)), none⟩ ::
    []))
  (.ret)
def c24_3 : HCode :=
  .seq (.region none (⟨some 19, .mv 1 (.t 0), none⟩ ::
    ⟨some 20, .mv 0 (.t 6), none⟩ ::
    ⟨some 21, .bin .sub (.t 20) (.c (.int .i64 1)), none⟩ ::
    ⟨some 22, .iaddr 1 (.t 19) (.t 21), none⟩ ::
    ⟨some 23, .load false 1 (.t 22), none⟩ ::
    ⟨some 24, .mv 0 (.t 6), none⟩ ::
    ⟨some 4, .mv 0 (.t 23), none⟩ ::
    ⟨some 5, .mv 0 (.t 24), none⟩ ::
    []))
  (.ret)
def c24_4 : HCode :=
  .seq (.seq (.region none (⟨some 17, .mv 0 (.t 6), none⟩ ::
    ⟨some 18, .bin .eql (.t 17) (.c (.int .i64 0)), none⟩ ::
    []))
  (.cond (.t 18) (c24_2) (.skip)))
  (c24_3)
def c24_5 : HCode :=
  .seq (.region none (⟨some 10, .mv 1 (.t 0), none⟩ ::
    ⟨some 11, .len (.t 10), none⟩ ::
    ⟨some 12, .bin .sub (.t 11) (.c (.int .i64 1)), none⟩ ::
    ⟨some 13, .mv 0 (.t 1), none⟩ ::
    ⟨some 14, .bin .quo (.t 12) (.t 13), none⟩ ::
    ⟨some 15, .mv 0 (.t 1), none⟩ ::
    ⟨some 16, .bin .mul (.t 14) (.t 15), none⟩ ::
    ⟨some 6, .mv 0 (.t 16), none⟩ ::
    []))
  (c24_4)
def c24_6 : HCode :=
  .seq (.seq (.region none (⟨some 7, .mv 1 (.t 0), none⟩ ::
    ⟨some 8, .len (.t 7), none⟩ ::
    ⟨some 9, .bin .eql (.t 8) (.c (.int .i64 0)), none⟩ ::
    []))
  (.cond (.t 9) (c24_1) (.skip)))
  (c24_5)
def c24 : HCode :=
  .seq (.region none (⟨some 4, .mv 0 (.c (.int .i64 0)), none⟩ ::
    ⟨some 5, .mv 0 (.c (.int .i64 0)), none⟩ ::
    []))
  (c24_6)
theorem fc24 : funCode Try.prog 24 = some (c24, [4, 5], 25) := by kernel_rfl

def c25_1 : HCode :=
  .seq (.region none (⟨some 17, .mv 0 (.t 5), none⟩ ::
    ⟨some 4, .mv 0 (.t 17), none⟩ ::
    []))
  (.ret)
def c25_2 : HCode :=
  .seq (.region none (⟨some 11, .mv 0 (.t 1), none⟩ ::
    ⟨some 12, .mv 1 (.t 0), none⟩ ::
    ⟨some 13, .mv 0 (.t 5), none⟩ ::
    ⟨some 14, .iaddr 1 (.t 12) (.t 13), none⟩ ::
    ⟨some 15, .load false 1 (.t 14), none⟩ ::
    ⟨some 16, .callv (.t 11) [(.t 15)], none⟩ ::
    []))
  (.cond (.t 16) (c25_1) (.skip))
def c25_3 : HCode :=
  .region none (⟨some 18, .bin .add (.t 8) (.c (.int .i64 1)), none⟩ ::
    ⟨some 8, .mv 0 (.t 18), none⟩ ::
    [])
def c25_4 : HCode :=
  .seq (.block 1 (.seq (.region none (⟨some 10, .mv 0 (.t 8), none⟩ ::
      ⟨some 5, .mv 0 (.t 10), none⟩ ::
      []))
    (c25_2)))
  (c25_3)
def c25_5 : HCode :=
  .seq (.region none (⟨some 9, .bin .lss (.t 8) (.t 7), none⟩ ::
    []))
  (.seq (.cond (.t 9) (.skip) (.exit 0))
  (c25_4))
def c25_6 : HCode :=
  .seq (.region none (⟨some 4, .mv 0 (.c (.int .i64 (-1))), none⟩ ::
    []))
  (.ret)
def c25_7 : HCode :=
  .seq (.seq (.region none (⟨some 6, .mv 1 (.t 0), none⟩ ::
    ⟨some 7, .len (.t 6), none⟩ ::
    ⟨some 8, .mv 0 (.c (.int .i64 0)), none⟩ ::
    []))
  (.block 0 (.loop (c25_5))))
  (c25_6)
def c25 : HCode :=
  .seq (.region none (⟨some 4, .mv 0 (.c (.int .i64 0)), none⟩ ::
    []))
  (c25_7)
theorem fc25 : funCode Try.prog 25 = some (c25, [4], 19) := by kernel_rfl

def c26_1 : HCode :=
  .seq (.region none (⟨some 6, .mv 0 (.c (.bool false)), none⟩ ::
    []))
  (.ret)
def c26_2 : HCode :=
  .seq (.region none (⟨some 6, .mv 0 (.c (.bool false)), none⟩ ::
    []))
  (.ret)
def c26_3 : HCode :=
  .seq (.region none (⟨some 26, .mv 0 (.t 2), none⟩ ::
    ⟨some 27, .mv 3 (.t 8), none⟩ ::
    ⟨some 28, .mv 3 (.t 9), none⟩ ::
    ⟨some 29, .callv (.t 26) [(.t 27), (.t 28)], none⟩ ::
    ⟨some 30, .un .not (.t 29), none⟩ ::
    []))
  (.cond (.t 30) (c26_2) (.skip))
def c26_4 : HCode :=
  .seq (.region none (⟨some 22, .mv 1 (.t 1), none⟩ ::
    ⟨some 23, .mv 0 (.t 7), none⟩ ::
    ⟨some 24, .iaddr 1 (.t 22) (.t 23), none⟩ ::
    ⟨some 25, .load false 1 (.t 24), none⟩ ::
    ⟨some 9, .mv 3 (.t 25), none⟩ ::
    []))
  (c26_3)
def c26_5 : HCode :=
  .region none (⟨some 31, .bin .add (.t 17) (.c (.int .i64 1)), none⟩ ::
    ⟨some 17, .mv 0 (.t 31), none⟩ ::
    [])
def c26_6 : HCode :=
  .seq (.block 1 (.seq (.region none (⟨some 19, .mv 0 (.t 17), none⟩ ::
      ⟨some 20, .iaddr 1 (.t 15) (.t 17), none⟩ ::
      ⟨some 21, .load false 1 (.t 20), none⟩ ::
      ⟨some 7, .mv 0 (.t 19), none⟩ ::
      ⟨some 8, .mv 3 (.t 21), none⟩ ::
      []))
    (c26_4)))
  (c26_5)
def c26_7 : HCode :=
  .seq (.region none (⟨some 18, .bin .lss (.t 17) (.t 16), none⟩ ::
    []))
  (.seq (.cond (.t 18) (.skip) (.exit 0))
  (c26_6))
def c26_8 : HCode :=
  .seq (.region none (⟨some 6, .mv 0 (.c (.bool true)), none⟩ ::
    []))
  (.ret)
def c26_9 : HCode :=
  .seq (.seq (.region none (⟨some 15, .mv 1 (.t 0), none⟩ ::
    ⟨some 16, .len (.t 15), none⟩ ::
    ⟨some 17, .mv 0 (.c (.int .i64 0)), none⟩ ::
    []))
  (.block 0 (.loop (c26_7))))
  (c26_8)
def c26_10 : HCode :=
  .seq (.seq (.region none (⟨some 10, .mv 1 (.t 0), none⟩ ::
    ⟨some 11, .len (.t 10), none⟩ ::
    ⟨some 12, .mv 1 (.t 1), none⟩ ::
    ⟨some 13, .len (.t 12), none⟩ ::
    ⟨some 14, .bin .neq (.t 11) (.t 13), none⟩ ::
    []))
  (.cond (.t 14) (c26_1) (.skip)))
  (c26_9)
def c26 : HCode :=
  .seq (.region none (⟨some 6, .mv 0 (.c (.bool false)), none⟩ ::
    []))
  (c26_10)
theorem fc26 : funCode Try.prog 26 = some (c26, [6], 32) := by kernel_rfl

def c27_1 : HCode :=
  .seq (.region none (⟨some 4, .mv 0 (.c (.bool false)), none⟩ ::
    []))
  (.ret)
def c27_2 : HCode :=
  .seq (.region none (⟨some 4, .mv 0 (.c (.bool false)), none⟩ ::
    []))
  (.ret)
def c27_3 : HCode :=
  .seq (.region (some [0, 0, 3, 7, 0, 0, 48, 112, 255]) (⟨some 16, .mv 3 (.t 0), none⟩ ::
    ⟨some 17, .mv 0 (.t 5), none⟩ ::
    ⟨some 18, .iaddr 3 (.t 16) (.t 17), none⟩ ::
    ⟨some 19, .load true 3 (.t 18), none⟩ ::
    ⟨some 20, .mv 3 (.t 1), none⟩ ::
    ⟨some 21, .mv 0 (.t 5), none⟩ ::
    ⟨some 22, .iaddr 3 (.t 20) (.t 21), none⟩ ::
    ⟨some 23, .load true 3 (.t 22), none⟩ ::
    ⟨some 24, .aeq true 3 (.t 19) (.t 23), none⟩ ::
    []))
  (.cond (.t 24) (c27_2) (.skip))
def c27_4 : HCode :=
  .region none (⟨some 25, .bin .add (.t 13) (.c (.int .i64 1)), none⟩ ::
    ⟨some 13, .mv 0 (.t 25), none⟩ ::
    [])
def c27_5 : HCode :=
  .seq (.block 1 (.seq (.region none (⟨some 15, .mv 0 (.t 13), none⟩ ::
      ⟨some 5, .mv 0 (.t 15), none⟩ ::
      []))
    (c27_3)))
  (c27_4)
def c27_6 : HCode :=
  .seq (.region none (⟨some 14, .bin .lss (.t 13) (.t 12), none⟩ ::
    []))
  (.seq (.cond (.t 14) (.skip) (.exit 0))
  (c27_5))
def c27_7 : HCode :=
  .seq (.region none (⟨some 4, .mv 0 (.c (.bool true)), none⟩ ::
    []))
  (.ret)
def c27_8 : HCode :=
  .seq (.seq (.region none (⟨some 11, .mv 3 (.t 0), none⟩ ::
    ⟨some 12, .len (.t 11), none⟩ ::
    ⟨some 13, .mv 0 (.c (.int .i64 0)), none⟩ ::
    []))
  (.block 0 (.loop (c27_6))))
  (c27_7)
def c27_9 : HCode :=
  .seq (.seq (.region none (⟨some 6, .mv 3 (.t 0), none⟩ ::
    ⟨some 7, .len (.t 6), none⟩ ::
    ⟨some 8, .mv 3 (.t 1), none⟩ ::
    ⟨some 9, .len (.t 8), none⟩ ::
    ⟨some 10, .bin .neq (.t 7) (.t 9), none⟩ ::
    []))
  (.cond (.t 10) (c27_1) (.skip)))
  (c27_8)
def c27 : HCode :=
  .seq (.region none (⟨some 4, .mv 0 (.c (.bool false)), none⟩ ::
    []))
  (c27_9)
theorem fc27 : funCode Try.prog 27 = some (c27, [4], 26) := by kernel_rfl

def c28_1 : HCode :=
  .region none (⟨some 44, .mv 1 (.t 3), none⟩ ::
    ⟨some 45, .mv 0 (.t 6), none⟩ ::
    ⟨some 46, .mv 1 (.t 3), none⟩ ::
    ⟨some 47, .mv 0 (.t 6), none⟩ ::
    ⟨some 48, .iaddr 1 (.t 46) (.t 47), none⟩ ::
    ⟨some 49, .load false 1 (.t 48), none⟩ ::
    ⟨some 50, .mv 0 (.t 49), none⟩ ::
    ⟨some 51, .mv 0 (.t 7), some (6, false)⟩ ::
    ⟨some 52, .pick (.t 50) (.c (.bool true)) (.t 51), none⟩ ::
    ⟨some 53, .mv 0 (.t 52), none⟩ ::
    ⟨some 54, .mv 0 (.t 6), some (9, false)⟩ ::
    ⟨some 55, .mv 0 (.t 4), some (9, false)⟩ ::
    ⟨some 56, .bin .sub (.t 54) (.t 55), some (9, false)⟩ ::
    ⟨some 57, .bin .geq (.t 56) (.c (.int .i64 2)), some (9, false)⟩ ::
    ⟨some 58, .mv 0 (.t 57), some (9, false)⟩ ::
    ⟨some 59, .mv 0 (.t 4), some (14, true)⟩ ::
    ⟨some 60, .mv 1 (.t 0), some (14, true)⟩ ::
    ⟨some 61, .mv 0 (.t 5), some (14, true)⟩ ::
    ⟨some 62, .iaddr 1 (.t 60) (.t 61), some (14, true)⟩ ::
    ⟨some 63, .load false 1 (.t 62), some (14, true)⟩ ::
    ⟨some 64, .bin .add (.t 59) (.t 63), some (14, true)⟩ ::
    ⟨some 65, .mv 0 (.t 6), some (14, true)⟩ ::
    ⟨some 66, .bin .sub (.t 64) (.t 65), some (14, true)⟩ ::
    ⟨some 67, .bin .geq (.t 66) (.c (.int .i64 2)), some (14, true)⟩ ::
    ⟨some 68, .pick (.t 58) (.t 67) (.c (.bool false)), some (9, false)⟩ ::
    ⟨some 69, .pick (.t 53) (.c (.bool true)) (.t 68), none⟩ ::
    ⟨some 70, .iaddr 1 (.t 44) (.t 45), none⟩ ::
    ⟨none, .store true 1 (.t 70) (.t 69), none⟩ ::
    [])
def c28_2 : HCode :=
  .region none (⟨some 29, .mv 0 (.t 6), none⟩ ::
    ⟨some 30, .bin .add (.t 29) (.c (.int .i64 1)), none⟩ ::
    ⟨some 6, .mv 0 (.t 30), none⟩ ::
    [])
def c28_3 : HCode :=
  .seq (.block 3 (.seq (.region none (⟨some 31, .mv 0 (.t 6), none⟩ ::
      ⟨some 32, .mv 0 (.t 4), none⟩ ::
      ⟨some 33, .bin .eql (.t 31) (.t 32), none⟩ ::
      ⟨some 34, .mv 0 (.t 33), none⟩ ::
      ⟨some 35, .mv 0 (.t 6), some (3, false)⟩ ::
      ⟨some 36, .mv 0 (.t 4), some (3, false)⟩ ::
      ⟨some 37, .mv 1 (.t 0), some (3, false)⟩ ::
      ⟨some 38, .mv 0 (.t 5), some (3, false)⟩ ::
      ⟨some 39, .iaddr 1 (.t 37) (.t 38), some (3, false)⟩ ::
      ⟨some 40, .load false 1 (.t 39), some (3, false)⟩ ::
      ⟨some 41, .bin .add (.t 36) (.t 40), some (3, false)⟩ ::
      ⟨some 42, .bin .eql (.t 35) (.t 41), some (3, false)⟩ ::
      ⟨some 43, .pick (.t 34) (.c (.bool true)) (.t 42), none⟩ ::
      ⟨some 7, .mv 0 (.t 43), none⟩ ::
      []))
    (c28_1)))
  (c28_2)
def c28_4 : HCode :=
  .seq (.seq (.region none (⟨some 21, .mv 0 (.t 6), none⟩ ::
    ⟨some 22, .mv 0 (.t 4), none⟩ ::
    ⟨some 23, .mv 1 (.t 0), none⟩ ::
    ⟨some 24, .mv 0 (.t 5), none⟩ ::
    ⟨some 25, .iaddr 1 (.t 23) (.t 24), none⟩ ::
    ⟨some 26, .load false 1 (.t 25), none⟩ ::
    ⟨some 27, .bin .add (.t 22) (.t 26), none⟩ ::
    ⟨some 28, .bin .leq (.t 21) (.t 27), none⟩ ::
    []))
  (.cond (.t 28) (.skip) (.exit 2)))
  (c28_3)
def c28_5 : HCode :=
  .region none (⟨some 71, .mv 0 (.t 4), none⟩ ::
    ⟨some 72, .mv 1 (.t 0), none⟩ ::
    ⟨some 73, .mv 0 (.t 5), none⟩ ::
    ⟨some 74, .iaddr 1 (.t 72) (.t 73), none⟩ ::
    ⟨some 75, .load false 1 (.t 74), none⟩ ::
    ⟨some 76, .bin .add (.t 71) (.t 75), none⟩ ::
    ⟨some 4, .mv 0 (.t 76), none⟩ ::
    [])
def c28_6 : HCode :=
  .region none (⟨some 18, .mv 0 (.t 5), none⟩ ::
    ⟨some 19, .bin .add (.t 18) (.c (.int .i64 1)), none⟩ ::
    ⟨some 5, .mv 0 (.t 19), none⟩ ::
    [])
def c28_7 : HCode :=
  .seq (.block 1 (.seq (.seq (.region none (⟨some 20, .mv 0 (.t 4), none⟩ ::
      ⟨some 6, .mv 0 (.t 20), none⟩ ::
      []))
    (.block 2 (.loop (c28_4))))
    (c28_5)))
  (c28_6)
def c28_8 : HCode :=
  .seq (.seq (.region none (⟨some 14, .mv 0 (.t 5), none⟩ ::
    ⟨some 15, .mv 1 (.t 0), none⟩ ::
    ⟨some 16, .len (.t 15), none⟩ ::
    ⟨some 17, .bin .lss (.t 14) (.t 16), none⟩ ::
    []))
  (.cond (.t 17) (.skip) (.exit 0)))
  (c28_7)
def c28_9 : HCode :=
  .seq (.region none (⟨some 77, .mv 1 (.t 3), none⟩ ::
    ⟨some 2, .mv 1 (.t 77), none⟩ ::
    []))
  (.ret)
def c28_10 : HCode :=
  .seq (.seq (.region none (⟨some 5, .mv 0 (.c (.int .i64 0)), none⟩ ::
    []))
  (.block 0 (.loop (c28_8))))
  (c28_9)
def c28_11 : HCode :=
  .seq (.region none (⟨some 4, .mv 0 (.c (.int .i64 0)), none⟩ ::
    []))
  (c28_10)
def c28_12 : HCode :=
  .seq (.region none (⟨some 12, .mv 1 (.t 3), none⟩ ::
    ⟨some 13, .iaddr 1 (.t 12) (.c (.int .i64 0)), none⟩ ::
    ⟨none, .store true 1 (.t 13) (.c (.bool true)), none⟩ ::
    []))
  (c28_11)
def c28_13 : HCode :=
  .seq (.region none (⟨some 8, .mv 1 (.t 0), none⟩ ::
    ⟨some 9, .call 31 [(.t 8)], none⟩ ::
    ⟨some 10, .bin .add (.t 9) (.c (.int .i64 1)), none⟩ ::
    ⟨some 11, .mksl 1 1 [.bool false] (.t 10), none⟩ ::
    ⟨some 3, .mv 1 (.t 11), none⟩ ::
    []))
  (c28_12)
def c28 : HCode :=
  .seq (.region none (⟨some 2, .mv 1 (.c (.nils)), none⟩ ::
    []))
  (c28_13)
theorem fc28 : funCode Try.prog 28 = some (c28, [2], 78) := by kernel_rfl

def c29_1 : HCode :=
  .region none (⟨some 24, .mv 1 (.t 3), none⟩ ::
    ⟨some 25, .mv 0 (.t 4), none⟩ ::
    ⟨some 26, .iaddr 1 (.t 24) (.t 25), none⟩ ::
    ⟨none, .store true 1 (.t 26) (.c (.bool true)), none⟩ ::
    [])
def c29_2 : HCode :=
  .region none (⟨some 16, .mv 0 (.t 5), none⟩ ::
    ⟨some 17, .bin .add (.t 16) (.c (.int .i64 1)), none⟩ ::
    ⟨some 5, .mv 0 (.t 17), none⟩ ::
    [])
def c29_3 : HCode :=
  .seq (.block 1 (.seq (.region none (⟨some 18, .mv 0 (.t 4), none⟩ ::
      ⟨some 19, .mv 1 (.t 0), none⟩ ::
      ⟨some 20, .mv 0 (.t 5), none⟩ ::
      ⟨some 21, .iaddr 1 (.t 19) (.t 20), none⟩ ::
      ⟨some 22, .load false 1 (.t 21), none⟩ ::
      ⟨some 23, .bin .add (.t 18) (.t 22), none⟩ ::
      ⟨some 4, .mv 0 (.t 23), none⟩ ::
      []))
    (c29_1)))
  (c29_2)
def c29_4 : HCode :=
  .seq (.seq (.region none (⟨some 12, .mv 0 (.t 5), none⟩ ::
    ⟨some 13, .mv 1 (.t 0), none⟩ ::
    ⟨some 14, .len (.t 13), none⟩ ::
    ⟨some 15, .bin .lss (.t 12) (.t 14), none⟩ ::
    []))
  (.cond (.t 15) (.skip) (.exit 0)))
  (c29_3)
def c29_5 : HCode :=
  .seq (.region none (⟨some 27, .mv 1 (.t 3), none⟩ ::
    ⟨some 2, .mv 1 (.t 27), none⟩ ::
    []))
  (.ret)
def c29_6 : HCode :=
  .seq (.seq (.region none (⟨some 5, .mv 0 (.c (.int .i64 0)), none⟩ ::
    []))
  (.block 0 (.loop (c29_4))))
  (c29_5)
def c29_7 : HCode :=
  .seq (.region none (⟨some 4, .mv 0 (.c (.int .i64 0)), none⟩ ::
    []))
  (c29_6)
def c29_8 : HCode :=
  .seq (.region none (⟨some 10, .mv 1 (.t 3), none⟩ ::
    ⟨some 11, .iaddr 1 (.t 10) (.c (.int .i64 0)), none⟩ ::
    ⟨none, .store true 1 (.t 11) (.c (.bool true)), none⟩ ::
    []))
  (c29_7)
def c29_9 : HCode :=
  .seq (.region none (⟨some 6, .mv 1 (.t 0), none⟩ ::
    ⟨some 7, .call 31 [(.t 6)], none⟩ ::
    ⟨some 8, .bin .add (.t 7) (.c (.int .i64 1)), none⟩ ::
    ⟨some 9, .mksl 1 1 [.bool false] (.t 8), none⟩ ::
    ⟨some 3, .mv 1 (.t 9), none⟩ ::
    []))
  (c29_8)
def c29 : HCode :=
  .seq (.region none (⟨some 2, .mv 1 (.c (.nils)), none⟩ ::
    []))
  (c29_9)
theorem fc29 : funCode Try.prog 29 = some (c29, [2], 28) := by kernel_rfl

def c30_1 : HCode :=
  .region none (⟨some 42, .mv 0 (.t 10), none⟩ ::
    ⟨some 9, .mv 0 (.t 42), none⟩ ::
    [])
def c30_2 : HCode :=
  .region none (⟨some 24, .mv 0 (.t 10), none⟩ ::
    ⟨some 25, .bin .add (.t 24) (.c (.int .i64 1)), none⟩ ::
    ⟨some 10, .mv 0 (.t 25), none⟩ ::
    [])
def c30_3 : HCode :=
  .seq (.block 1 (.seq (.region none (⟨some 26, .mv 1 (.t 0), none⟩ ::
      ⟨some 27, .mv 0 (.t 10), none⟩ ::
      ⟨some 28, .iaddr 1 (.t 26) (.t 27), none⟩ ::
      ⟨some 29, .load false 1 (.t 28), none⟩ ::
      ⟨some 30, .mv 0 (.t 29), none⟩ ::
      ⟨some 31, .mv 0 (.t 10), some (4, true)⟩ ::
      ⟨some 32, .mv 0 (.t 2), some (4, true)⟩ ::
      ⟨some 33, .bin .add (.t 32) (.c (.int .i64 1)), some (4, true)⟩ ::
      ⟨some 34, .bin .gtr (.t 31) (.t 33), some (4, true)⟩ ::
      ⟨some 35, .mv 0 (.t 34), some (4, true)⟩ ::
      ⟨some 36, .mv 1 (.t 1), some (9, false)⟩ ::
      ⟨some 37, .mv 0 (.t 2), some (9, false)⟩ ::
      ⟨some 38, .iaddr 1 (.t 36) (.t 37), some (9, false)⟩ ::
      ⟨some 39, .load false 1 (.t 38), some (9, false)⟩ ::
      ⟨some 40, .pick (.t 35) (.c (.bool true)) (.t 39), some (4, true)⟩ ::
      ⟨some 41, .pick (.t 30) (.t 40) (.c (.bool false)), none⟩ ::
      []))
    (.cond (.t 41) (c30_1) (.skip))))
  (c30_2)
def c30_4 : HCode :=
  .seq (.seq (.region none (⟨some 13, .mv 0 (.t 10), none⟩ ::
    ⟨some 14, .mv 1 (.t 0), none⟩ ::
    ⟨some 15, .len (.t 14), none⟩ ::
    ⟨some 16, .bin .lss (.t 13) (.t 15), none⟩ ::
    ⟨some 17, .mv 0 (.t 16), none⟩ ::
    ⟨some 18, .mv 0 (.t 10), some (4, true)⟩ ::
    ⟨some 19, .mv 0 (.t 2), some (4, true)⟩ ::
    ⟨some 20, .mv 0 (.t 3), some (4, true)⟩ ::
    ⟨some 21, .bin .add (.t 19) (.t 20), some (4, true)⟩ ::
    ⟨some 22, .bin .leq (.t 18) (.t 21), some (4, true)⟩ ::
    ⟨some 23, .pick (.t 17) (.t 22) (.c (.bool false)), none⟩ ::
    []))
  (.cond (.t 23) (.skip) (.exit 0)))
  (c30_3)
def c30_5 : HCode :=
  .seq (.region none (⟨some 43, .mv 0 (.t 9), none⟩ ::
    ⟨some 8, .mv 0 (.t 43), none⟩ ::
    []))
  (.ret)
def c30_6 : HCode :=
  .seq (.seq (.region none (⟨some 11, .mv 0 (.t 2), none⟩ ::
    ⟨some 12, .bin .add (.t 11) (.c (.int .i64 1)), none⟩ ::
    ⟨some 10, .mv 0 (.t 12), none⟩ ::
    []))
  (.block 0 (.loop (c30_4))))
  (c30_5)
def c30_7 : HCode :=
  .seq (.region none (⟨some 9, .mv 0 (.c (.int .i64 (-1))), none⟩ ::
    []))
  (c30_6)
def c30 : HCode :=
  .seq (.region none (⟨some 8, .mv 0 (.c (.int .i64 0)), none⟩ ::
    []))
  (c30_7)
theorem fc30 : funCode Try.prog 30 = some (c30, [8], 44) := by kernel_rfl

def c31_1 : HCode :=
  .region none (⟨some 9, .mv 0 (.t 4), none⟩ ::
    ⟨some 10, .bin .add (.t 9) (.c (.int .i64 1)), none⟩ ::
    ⟨some 4, .mv 0 (.t 10), none⟩ ::
    [])
def c31_2 : HCode :=
  .seq (.block 1 (.region none (⟨some 11, .mv 0 (.t 3), none⟩ ::
      ⟨some 12, .mv 1 (.t 0), none⟩ ::
      ⟨some 13, .mv 0 (.t 4), none⟩ ::
      ⟨some 14, .iaddr 1 (.t 12) (.t 13), none⟩ ::
      ⟨some 15, .load false 1 (.t 14), none⟩ ::
      ⟨some 16, .bin .add (.t 11) (.t 15), none⟩ ::
      ⟨some 3, .mv 0 (.t 16), none⟩ ::
      [])))
  (c31_1)
def c31_3 : HCode :=
  .seq (.seq (.region none (⟨some 5, .mv 0 (.t 4), none⟩ ::
    ⟨some 6, .mv 1 (.t 0), none⟩ ::
    ⟨some 7, .len (.t 6), none⟩ ::
    ⟨some 8, .bin .lss (.t 5) (.t 7), none⟩ ::
    []))
  (.cond (.t 8) (.skip) (.exit 0)))
  (c31_2)
def c31_4 : HCode :=
  .seq (.region none (⟨some 17, .mv 0 (.t 3), none⟩ ::
    ⟨some 2, .mv 0 (.t 17), none⟩ ::
    []))
  (.ret)
def c31_5 : HCode :=
  .seq (.seq (.region none (⟨some 4, .mv 0 (.c (.int .i64 0)), none⟩ ::
    []))
  (.block 0 (.loop (c31_3))))
  (c31_4)
def c31_6 : HCode :=
  .seq (.region none (⟨some 3, .mv 0 (.c (.int .i64 0)), none⟩ ::
    []))
  (c31_5)
def c31 : HCode :=
  .seq (.region none (⟨some 2, .mv 0 (.c (.int .i64 0)), none⟩ ::
    []))
  (c31_6)
theorem fc31 : funCode Try.prog 31 = some (c31, [2], 18) := by kernel_rfl

end Go.Proofs.Ytpffacaeonccpaa
