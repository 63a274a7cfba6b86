/-
  OWN WORK, written by my own program. The functions that the claim reaches, in the value language; each is checked against the translation.
-/
import Derived.Test.YtbddkmhpfbmcmaaHl4
import Derived.Test.YtbddkmhpfbmcmaaProg
namespace Go.Proofs.Ytbddkmhpfbmcmaa
open Go.HL
set_option maxRecDepth 100000
set_option linter.unusedVariables false
def c2 : HCode :=
  .region none (⟨some 0, .call 1 [], none⟩ ::
    [])
theorem fc2 : funCode Try.prog 2 = some (c2, [], 1) := by kernel_rfl

def c11_1 : HCode :=
  .seq (.region none (⟨some 6, .mv 1 (.t 0), none⟩ ::
    ⟨some 7, .mv 1 (.t 0), none⟩ ::
    ⟨some 8, .call 31 [(.t 7), (.c (.int .i64 5))], none⟩ ::
    ⟨some 9, .call 20 [(.t 8), (.c (.int .i64 7))], none⟩ ::
    ⟨some 10, .bin .add (.c (.int .i64 2)) (.t 9), none⟩ ::
    ⟨some 11, .mv 1 (.t 0), none⟩ ::
    ⟨some 12, .call 31 [(.t 11), (.c (.int .i64 6))], none⟩ ::
    ⟨some 13, .call 20 [(.t 12), (.c (.int .i64 21))], none⟩ ::
    ⟨some 14, .call 26 [(.t 6), (.t 10), (.t 13)], none⟩ ::
    ⟨some 15, .ext (.t 14) 0, none⟩ ::
    ⟨some 16, .ext (.t 14) 1, none⟩ ::
    ⟨some 17, .ext (.t 14) 2, none⟩ ::
    ⟨some 18, .ext (.t 14) 3, none⟩ ::
    ⟨some 2, .mv 0 (.t 15), none⟩ ::
    ⟨some 3, .mv 3 (.t 16), none⟩ ::
    ⟨some 4, .mv 0 (.t 17), none⟩ ::
    ⟨some 5, .mv 0 (.t 18), none⟩ ::
    []))
  (.ret)
def c11 : HCode :=
  .seq (.region none (⟨some 2, .mv 0 (.c (.int .i64 0)), none⟩ ::
    ⟨some 3, .mv 3 (.c (.nils)), none⟩ ::
    ⟨some 4, .mv 0 (.c (.int .i64 0)), none⟩ ::
    ⟨some 5, .mv 0 (.c (.int .i64 0)), none⟩ ::
    []))
  (c11_1)
theorem fc11 : funCode Try.prog 11 = some (c11, [2, 3, 4, 5], 19) := by kernel_rfl

def c12_1 : HCode :=
  .region none (⟨some 50, .mv 1 (.t 13), none⟩ ::
    ⟨some 11, .mv 1 (.t 50), none⟩ ::
    [])
def c12_2 : HCode :=
  .seq (.region none (⟨some 49, .mv 0 (.t 14), none⟩ ::
    ⟨some 10, .mv 0 (.t 49), none⟩ ::
    []))
  (c12_1)
def c12_3 : HCode :=
  .region none (⟨some 57, .mv 0 (.t 15), none⟩ ::
    ⟨some 58, .bin .add (.t 57) (.c (.int .i64 1)), none⟩ ::
    ⟨some 15, .mv 0 (.t 58), none⟩ ::
    [])
def c12_4 : HCode :=
  .seq (.block 3 (.region none (⟨some 59, .mv 1 (.t 11), none⟩ ::
      ⟨some 60, .mv 0 (.t 15), none⟩ ::
      ⟨some 61, .mv 1 (.t 11), none⟩ ::
      ⟨some 62, .mv 0 (.t 15), none⟩ ::
      ⟨some 63, .iaddr 1 (.t 61) (.t 62), none⟩ ::
      ⟨some 64, .load false 1 (.t 63), none⟩ ::
      ⟨some 65, .mv 0 (.t 64), none⟩ ::
      ⟨some 66, .mv 1 (.t 13), some (6, true)⟩ ::
      ⟨some 67, .mv 0 (.t 15), some (6, true)⟩ ::
      ⟨some 68, .iaddr 1 (.t 66) (.t 67), some (6, true)⟩ ::
      ⟨some 69, .load false 1 (.t 68), some (6, true)⟩ ::
      ⟨some 70, .pick (.t 65) (.t 69) (.c (.bool false)), none⟩ ::
      ⟨some 71, .iaddr 1 (.t 59) (.t 60), none⟩ ::
      ⟨none, .store true 1 (.t 71) (.t 70), none⟩ ::
      [])))
  (c12_3)
def c12_5 : HCode :=
  .seq (.seq (.region none (⟨some 54, .mv 0 (.t 15), none⟩ ::
    ⟨some 55, .mv 0 (.t 0), none⟩ ::
    ⟨some 56, .bin .lss (.t 54) (.t 55), none⟩ ::
    []))
  (.cond (.t 56) (.skip) (.exit 2)))
  (c12_4)
def c12_6 : HCode :=
  .seq (.region none (⟨some 15, .mv 0 (.c (.int .i64 0)), none⟩ ::
    []))
  (.block 2 (.loop (c12_5)))
def c12_7 : HCode :=
  .seq (.region none (⟨some 51, .mv 0 (.t 14), none⟩ ::
    ⟨some 52, .mv 0 (.t 10), none⟩ ::
    ⟨some 53, .bin .eql (.t 51) (.t 52), none⟩ ::
    []))
  (.cond (.t 53) (c12_6) (.skip))
def c12_8 : HCode :=
  .seq (.region none (⟨some 41, .mv 1 (.t 11), none⟩ ::
    ⟨some 42, .len (.t 41), none⟩ ::
    ⟨some 43, .bin .eql (.t 42) (.c (.int .i64 0)), none⟩ ::
    ⟨some 44, .mv 0 (.t 43), none⟩ ::
    ⟨some 45, .mv 0 (.t 14), some (3, false)⟩ ::
    ⟨some 46, .mv 0 (.t 10), some (3, false)⟩ ::
    ⟨some 47, .bin .lss (.t 45) (.t 46), some (3, false)⟩ ::
    ⟨some 48, .pick (.t 44) (.c (.bool true)) (.t 47), none⟩ ::
    []))
  (.cond (.t 48) (c12_2) (c12_7))
def c12_9 : HCode :=
  .seq (.region none (⟨some 37, .mv 0 (.t 0), none⟩ ::
    ⟨some 38, .mv 3 (.t 1), none⟩ ::
    ⟨some 39, .mv 1 (.t 13), none⟩ ::
    ⟨some 40, .call 25 [(.t 37), (.t 38), (.t 39)], none⟩ ::
    ⟨some 14, .mv 0 (.t 40), none⟩ ::
    []))
  (c12_8)
def c12_10 : HCode :=
  .seq (.seq (.region none (⟨some 26, .mv 1 (.t 13), none⟩ ::
    ⟨some 27, .mv 0 (.t 2), none⟩ ::
    ⟨some 28, .iaddr 1 (.t 26) (.t 27), none⟩ ::
    ⟨some 29, .load false 1 (.t 28), none⟩ ::
    ⟨some 30, .un .not (.t 29), none⟩ ::
    ⟨some 31, .mv 0 (.t 30), none⟩ ::
    ⟨some 32, .mv 1 (.t 13), some (5, false)⟩ ::
    ⟨some 33, .mv 0 (.t 3), some (5, false)⟩ ::
    ⟨some 34, .iaddr 1 (.t 32) (.t 33), some (5, false)⟩ ::
    ⟨some 35, .load false 1 (.t 34), some (5, false)⟩ ::
    ⟨some 36, .pick (.t 31) (.c (.bool true)) (.t 35), none⟩ ::
    []))
  (.cond (.t 36) (.exit 1) (.skip)))
  (c12_9)
def c12_11 : HCode :=
  .region none (⟨some 21, .mv 0 (.t 12), none⟩ ::
    ⟨some 22, .bin .add (.t 21) (.c (.int .i64 1)), none⟩ ::
    ⟨some 12, .mv 0 (.t 22), none⟩ ::
    [])
def c12_12 : HCode :=
  .seq (.block 1 (.seq (.region none (⟨some 23, .mv 0 (.t 0), none⟩ ::
      ⟨some 24, .mv 0 (.t 12), none⟩ ::
      ⟨some 25, .call 23 [(.t 23), (.t 24)], none⟩ ::
      ⟨some 13, .mv 1 (.t 25), none⟩ ::
      []))
    (c12_10)))
  (c12_11)
def c12_13 : HCode :=
  .seq (.seq (.region none (⟨some 16, .mv 0 (.t 12), none⟩ ::
    ⟨some 17, .mv 0 (.t 0), none⟩ ::
    ⟨some 18, .conv .u64 (.t 17), none⟩ ::
    ⟨some 19, .bin .shl (.c (.int .i64 1)) (.t 18), none⟩ ::
    ⟨some 20, .bin .lss (.t 16) (.t 19), none⟩ ::
    []))
  (.cond (.t 20) (.skip) (.exit 0)))
  (c12_12)
def c12_14 : HCode :=
  .seq (.region none (⟨some 72, .mv 0 (.t 10), none⟩ ::
    ⟨some 73, .mv 1 (.t 11), none⟩ ::
    ⟨some 8, .mv 0 (.t 72), none⟩ ::
    ⟨some 9, .mv 1 (.t 73), none⟩ ::
    []))
  (.ret)
def c12_15 : HCode :=
  .seq (.seq (.region none (⟨some 12, .mv 0 (.c (.int .i64 0)), none⟩ ::
    []))
  (.block 0 (.loop (c12_13))))
  (c12_14)
def c12_16 : HCode :=
  .seq (.region none (⟨some 11, .mv 1 (.c (.nils)), none⟩ ::
    []))
  (c12_15)
def c12_17 : HCode :=
  .seq (.region none (⟨some 10, .mv 0 (.c (.int .i64 0)), none⟩ ::
    []))
  (c12_16)
def c12 : HCode :=
  .seq (.region none (⟨some 8, .mv 0 (.c (.int .i64 0)), none⟩ ::
    ⟨some 9, .mv 1 (.c (.nils)), none⟩ ::
    []))
  (c12_17)
theorem fc12 : funCode Try.prog 12 = some (c12, [8, 9], 74) := by kernel_rfl

def c13_1 : HCode :=
  .seq (.region none (⟨some 8, .mv 0 (.c (.int .i64 0)), none⟩ ::
    ⟨some 9, .mv 1 (.c (.nils)), none⟩ ::
    ⟨some 10, .mv 0 (.c (.int .i64 1)), none⟩ ::
    []))
  (.ret)
def c13_2 : HCode :=
  .region (some [0, 0, 2, 0, 8, 24, 56, 120, 0, 256, 1016, 2040, 4094, 8190, 16382, 32767, 65535]) (⟨some 37, .mv 1 (.t 13), none⟩ ::
    ⟨some 38, .faddr 2 (.t 15), none⟩ ::
    ⟨some 39, .load false 1 (.t 38), none⟩ ::
    ⟨some 40, .mv 0 (.t 11), none⟩ ::
    ⟨some 41, .nilck (.t 40), none⟩ ::
    ⟨some 42, .faddr 0 (.t 41), none⟩ ::
    ⟨some 43, .faddr 1 (.t 42), none⟩ ::
    ⟨some 44, .load false 1 (.t 43), none⟩ ::
    ⟨some 45, .mv 0 (.t 14), none⟩ ::
    ⟨some 46, .bin .mul (.c (.int .i64 2)) (.t 45), none⟩ ::
    ⟨some 47, .iaddr 1 (.t 44) (.t 46), none⟩ ::
    ⟨some 48, .load false 1 (.t 47), none⟩ ::
    ⟨some 49, .bin .sub (.t 39) (.t 48), none⟩ ::
    ⟨some 50, .mm true (.c (.int .i64 0)) (.t 49), none⟩ ::
    ⟨some 51, .bsl 1 1 [(.t 50)], none⟩ ::
    ⟨some 52, .app true 1 8 (.t 37) (.t 51), none⟩ ::
    ⟨some 13, .mv 1 (.t 52), none⟩ ::
    [])
def c13_3 : HCode :=
  .region none (⟨some 53, .bin .add (.t 32) (.c (.int .i64 1)), none⟩ ::
    ⟨some 32, .mv 0 (.t 53), none⟩ ::
    [])
def c13_4 : HCode :=
  .seq (.block 1 (.seq (.region none (⟨some 34, .mv 0 (.t 32), none⟩ ::
      ⟨some 35, .iaddr 3 (.t 30) (.t 32), none⟩ ::
      ⟨some 36, .load true 3 (.t 35), none⟩ ::
      ⟨some 15, .newz [.int .i64 0, .int .i64 0, .int .i64 0], none⟩ ::
      ⟨some 14, .mv 0 (.t 34), none⟩ ::
      ⟨none, .store true 3 (.t 15) (.t 36), none⟩ ::
      []))
    (c13_2)))
  (c13_3)
def c13_5 : HCode :=
  .seq (.region none (⟨some 33, .bin .lss (.t 32) (.t 31), none⟩ ::
    []))
  (.seq (.cond (.t 33) (.skip) (.exit 0))
  (c13_4))
def c13_6 : HCode :=
  .seq (.region none (⟨some 54, .mv 0 (.t 12), none⟩ ::
    ⟨some 55, .mv 1 (.t 13), none⟩ ::
    ⟨some 8, .mv 0 (.t 54), none⟩ ::
    ⟨some 9, .mv 1 (.t 55), none⟩ ::
    ⟨some 10, .mv 0 (.c (.int .i64 0)), none⟩ ::
    []))
  (.ret)
def c13_7 : HCode :=
  .seq (.seq (.region none (⟨some 30, .mv 3 (.t 1), none⟩ ::
    ⟨some 31, .len (.t 30), none⟩ ::
    ⟨some 32, .mv 0 (.c (.int .i64 0)), none⟩ ::
    []))
  (.block 0 (.loop (c13_5))))
  (c13_6)
def c13_8 : HCode :=
  .seq (.region none (⟨some 13, .mv 1 (.c (.nils)), none⟩ ::
    []))
  (c13_7)
def c13_9 : HCode :=
  .seq (.region none (⟨some 23, .mv 0 (.t 0), none⟩ ::
    ⟨some 24, .mv 3 (.t 1), none⟩ ::
    ⟨some 25, .mv 0 (.t 2), none⟩ ::
    ⟨some 26, .mv 0 (.t 3), none⟩ ::
    ⟨some 27, .call 32 [(.t 23), (.t 24), (.t 25), (.t 26)], none⟩ ::
    ⟨some 22, .mv 0 (.t 27), none⟩ ::
    ⟨some 28, .ext (.t 22) 0, none⟩ ::
    ⟨some 29, .ext (.t 22) 1, none⟩ ::
    ⟨some 11, .mv 0 (.t 28), none⟩ ::
    ⟨some 12, .mv 0 (.t 29), none⟩ ::
    []))
  (c13_8)
def c13_10 : HCode :=
  .seq (.seq (.region none (⟨some 16, .mv 0 (.t 0), none⟩ ::
    ⟨some 17, .mv 3 (.t 1), none⟩ ::
    ⟨some 18, .mv 0 (.t 2), none⟩ ::
    ⟨some 19, .mv 0 (.t 3), none⟩ ::
    ⟨some 20, .call 18 [(.t 16), (.t 17), (.t 18), (.t 19)], none⟩ ::
    ⟨some 21, .un .not (.t 20), none⟩ ::
    []))
  (.cond (.t 21) (c13_1) (.skip)))
  (c13_9)
def c13 : HCode :=
  .seq (.region none (⟨some 8, .mv 0 (.c (.int .i64 0)), none⟩ ::
    ⟨some 9, .mv 1 (.c (.nils)), none⟩ ::
    ⟨some 10, .mv 0 (.c (.int .i64 0)), none⟩ ::
    []))
  (c13_10)
theorem fc13 : funCode Try.prog 13 = some (c13, [8, 9, 10], 56) := by kernel_rfl

def c14_1 : HCode :=
  .seq (.region none (⟨some 8, .mv 1 (.c (.nils)), none⟩ ::
    ⟨some 9, .mv 0 (.c (.int .i64 1)), none⟩ ::
    []))
  (.ret)
def c14_2 : HCode :=
  .region none (⟨some 38, .mv 1 (.t 12), none⟩ ::
    ⟨some 39, .mv 0 (.t 14), none⟩ ::
    ⟨some 40, .bin .geq (.t 39) (.c (.int .i64 0)), none⟩ ::
    ⟨some 41, .bsl 1 1 [(.t 40)], none⟩ ::
    ⟨some 42, .app true 1 1 (.t 38) (.t 41), none⟩ ::
    ⟨some 12, .mv 1 (.t 42), none⟩ ::
    [])
def c14_3 : HCode :=
  .region none (⟨some 43, .bin .add (.t 34) (.c (.int .i64 1)), none⟩ ::
    ⟨some 34, .mv 0 (.t 43), none⟩ ::
    [])
def c14_4 : HCode :=
  .seq (.block 1 (.seq (.region none (⟨some 36, .iaddr 1 (.t 32) (.t 34), none⟩ ::
      ⟨some 37, .load false 1 (.t 36), none⟩ ::
      ⟨some 14, .mv 0 (.t 37), none⟩ ::
      []))
    (c14_2)))
  (c14_3)
def c14_5 : HCode :=
  .seq (.region none (⟨some 35, .bin .lss (.t 34) (.t 33), none⟩ ::
    []))
  (.seq (.cond (.t 35) (.skip) (.exit 0))
  (c14_4))
def c14_6 : HCode :=
  .seq (.region none (⟨some 44, .mv 1 (.t 12), none⟩ ::
    ⟨some 8, .mv 1 (.t 44), none⟩ ::
    ⟨some 9, .mv 0 (.c (.int .i64 0)), none⟩ ::
    []))
  (.ret)
def c14_7 : HCode :=
  .seq (.seq (.region none (⟨some 29, .mv 0 (.t 10), none⟩ ::
    ⟨some 30, .nilck (.t 29), none⟩ ::
    ⟨some 31, .faddr 3 (.t 30), none⟩ ::
    ⟨some 32, .load false 1 (.t 31), none⟩ ::
    ⟨some 33, .len (.t 32), none⟩ ::
    ⟨some 34, .mv 0 (.c (.int .i64 0)), none⟩ ::
    []))
  (.block 0 (.loop (c14_5))))
  (c14_6)
def c14_8 : HCode :=
  .seq (.region none (⟨some 12, .mv 1 (.c (.nils)), none⟩ ::
    []))
  (c14_7)
def c14_9 : HCode :=
  .seq (.region none (⟨some 22, .mv 0 (.t 0), none⟩ ::
    ⟨some 23, .mv 3 (.t 1), none⟩ ::
    ⟨some 24, .mv 0 (.t 2), none⟩ ::
    ⟨some 25, .mv 0 (.t 3), none⟩ ::
    ⟨some 26, .call 32 [(.t 22), (.t 23), (.t 24), (.t 25)], none⟩ ::
    ⟨some 21, .mv 0 (.t 26), none⟩ ::
    ⟨some 27, .ext (.t 21) 0, none⟩ ::
    ⟨some 28, .ext (.t 21) 1, none⟩ ::
    ⟨some 10, .mv 0 (.t 27), none⟩ ::
    ⟨some 11, .mv 0 (.t 28), none⟩ ::
    []))
  (c14_8)
def c14_10 : HCode :=
  .seq (.seq (.region none (⟨some 15, .mv 0 (.t 0), none⟩ ::
    ⟨some 16, .mv 3 (.t 1), none⟩ ::
    ⟨some 17, .mv 0 (.t 2), none⟩ ::
    ⟨some 18, .mv 0 (.t 3), none⟩ ::
    ⟨some 19, .call 18 [(.t 15), (.t 16), (.t 17), (.t 18)], none⟩ ::
    ⟨some 20, .un .not (.t 19), none⟩ ::
    []))
  (.cond (.t 20) (c14_1) (.skip)))
  (c14_9)
def c14 : HCode :=
  .seq (.region none (⟨some 8, .mv 1 (.c (.nils)), none⟩ ::
    ⟨some 9, .mv 0 (.c (.int .i64 0)), none⟩ ::
    []))
  (c14_10)
theorem fc14 : funCode Try.prog 14 = some (c14, [8, 9], 45) := by kernel_rfl

def c15_1 : HCode :=
  .seq (.region none (⟨some 4, .mv 0 (.c (.bool false)), none⟩ ::
    []))
  (.ret)
def c15_2 : HCode :=
  .seq (.region none (⟨some 4, .mv 0 (.c (.bool false)), none⟩ ::
    []))
  (.ret)
def c15_3 : HCode :=
  .region none (⟨some 15, .mv 0 (.t 5), none⟩ ::
    ⟨some 16, .bin .add (.t 15) (.c (.int .i64 1)), none⟩ ::
    ⟨some 5, .mv 0 (.t 16), none⟩ ::
    [])
def c15_4 : HCode :=
  .seq (.block 1 (.seq (.region (some [0, 0, 3, 7, 0, 0, 48, 112, 255]) (⟨some 17, .mv 1 (.t 0), none⟩ ::
      ⟨some 18, .mv 0 (.t 5), none⟩ ::
      ⟨some 19, .iaddr 1 (.t 17) (.t 18), none⟩ ::
      ⟨some 20, .load false 1 (.t 19), none⟩ ::
      ⟨some 21, .mv 1 (.t 1), none⟩ ::
      ⟨some 22, .mv 0 (.t 5), none⟩ ::
      ⟨some 23, .iaddr 1 (.t 21) (.t 22), none⟩ ::
      ⟨some 24, .load false 1 (.t 23), none⟩ ::
      ⟨some 25, .beq true (.t 20) (.t 24), none⟩ ::
      []))
    (.cond (.t 25) (c15_2) (.skip))))
  (c15_3)
def c15_5 : HCode :=
  .seq (.seq (.region none (⟨some 11, .mv 0 (.t 5), none⟩ ::
    ⟨some 12, .mv 1 (.t 0), none⟩ ::
    ⟨some 13, .len (.t 12), none⟩ ::
    ⟨some 14, .bin .lss (.t 11) (.t 13), none⟩ ::
    []))
  (.cond (.t 14) (.skip) (.exit 0)))
  (c15_4)
def c15_6 : HCode :=
  .seq (.region none (⟨some 4, .mv 0 (.c (.bool true)), none⟩ ::
    []))
  (.ret)
def c15_7 : HCode :=
  .seq (.seq (.region none (⟨some 5, .mv 0 (.c (.int .i64 0)), none⟩ ::
    []))
  (.block 0 (.loop (c15_5))))
  (c15_6)
def c15_8 : HCode :=
  .seq (.seq (.region none (⟨some 6, .mv 1 (.t 0), none⟩ ::
    ⟨some 7, .len (.t 6), none⟩ ::
    ⟨some 8, .mv 1 (.t 1), none⟩ ::
    ⟨some 9, .len (.t 8), none⟩ ::
    ⟨some 10, .bin .neq (.t 7) (.t 9), none⟩ ::
    []))
  (.cond (.t 10) (c15_1) (.skip)))
  (c15_7)
def c15 : HCode :=
  .seq (.region none (⟨some 4, .mv 0 (.c (.bool false)), none⟩ ::
    []))
  (c15_8)
theorem fc15 : funCode Try.prog 15 = some (c15, [4], 26) := by kernel_rfl

def c16_1 : HCode :=
  .seq (.region none (⟨some 17, .mv 3 (.t 9), none⟩ ::
    ⟨some 8, .mv 3 (.t 17), none⟩ ::
    []))
  (.ret)
def c16_2 : HCode :=
  .region none (⟨some 26, .mv 3 (.t 9), none⟩ ::
    ⟨some 27, .mv 0 (.t 10), none⟩ ::
    ⟨some 28, .mv 0 (.t 1), none⟩ ::
    ⟨some 29, .iaddr 3 (.t 26) (.t 27), none⟩ ::
    ⟨some 30, .faddr 0 (.t 29), none⟩ ::
    ⟨none, .store true 1 (.t 30) (.t 28), none⟩ ::
    [])
def c16_3 : HCode :=
  .region none (⟨some 33, .mv 3 (.t 9), none⟩ ::
    ⟨some 34, .mv 0 (.t 10), none⟩ ::
    ⟨some 35, .iaddr 3 (.t 33) (.t 34), none⟩ ::
    ⟨some 36, .faddr 1 (.t 35), none⟩ ::
    ⟨none, .store true 1 (.t 36) (.c (.int .i64 (-1))), none⟩ ::
    [])
def c16_4 : HCode :=
  .region none (⟨some 39, .mv 3 (.t 9), none⟩ ::
    ⟨some 40, .mv 0 (.t 10), none⟩ ::
    ⟨some 41, .mv 3 (.t 9), none⟩ ::
    ⟨some 42, .mv 0 (.t 10), none⟩ ::
    ⟨some 43, .iaddr 3 (.t 41) (.t 42), none⟩ ::
    ⟨some 44, .faddr 0 (.t 43), none⟩ ::
    ⟨some 45, .load false 1 (.t 44), none⟩ ::
    ⟨some 46, .iaddr 3 (.t 39) (.t 40), none⟩ ::
    ⟨some 47, .faddr 1 (.t 46), none⟩ ::
    ⟨none, .store true 1 (.t 47) (.t 45), none⟩ ::
    [])
def c16_5 : HCode :=
  .region none (⟨some 50, .mv 3 (.t 9), none⟩ ::
    ⟨some 51, .mv 0 (.t 10), none⟩ ::
    ⟨some 52, .iaddr 3 (.t 50) (.t 51), none⟩ ::
    ⟨some 53, .faddr 2 (.t 52), none⟩ ::
    ⟨none, .store true 1 (.t 53) (.c (.int .i64 (-1))), none⟩ ::
    [])
def c16_6 : HCode :=
  .region none (⟨some 56, .mv 3 (.t 9), none⟩ ::
    ⟨some 57, .mv 0 (.t 10), none⟩ ::
    ⟨some 58, .iaddr 3 (.t 56) (.t 57), none⟩ ::
    ⟨some 59, .faddr 2 (.t 58), none⟩ ::
    ⟨none, .store true 1 (.t 59) (.c (.int .i64 1099511627777)), none⟩ ::
    [])
def c16_7 : HCode :=
  .region none (⟨some 62, .mv 3 (.t 9), none⟩ ::
    ⟨some 63, .mv 0 (.t 10), none⟩ ::
    ⟨some 64, .mv 0 (.t 1), none⟩ ::
    ⟨some 65, .iaddr 3 (.t 62) (.t 63), none⟩ ::
    ⟨some 66, .faddr 1 (.t 65), none⟩ ::
    ⟨none, .store true 1 (.t 66) (.t 64), none⟩ ::
    [])
def c16_8 : HCode :=
  .seq (.region none (⟨some 61, .bin .eql (.t 23) (.c (.int .i64 5)), none⟩ ::
    ⟨some 60, .mv 0 (.t 61), none⟩ ::
    []))
  (.cond (.t 60) (c16_7) (.skip))
def c16_9 : HCode :=
  .seq (.region none (⟨some 55, .bin .eql (.t 23) (.c (.int .i64 4)), none⟩ ::
    ⟨some 54, .mv 0 (.t 55), none⟩ ::
    []))
  (.cond (.t 54) (c16_6) (c16_8))
def c16_10 : HCode :=
  .seq (.region none (⟨some 49, .bin .eql (.t 23) (.c (.int .i64 3)), none⟩ ::
    ⟨some 48, .mv 0 (.t 49), none⟩ ::
    []))
  (.cond (.t 48) (c16_5) (c16_9))
def c16_11 : HCode :=
  .seq (.region none (⟨some 38, .bin .eql (.t 23) (.c (.int .i64 2)), none⟩ ::
    ⟨some 37, .mv 0 (.t 38), none⟩ ::
    []))
  (.cond (.t 37) (c16_4) (c16_10))
def c16_12 : HCode :=
  .seq (.region none (⟨some 32, .bin .eql (.t 23) (.c (.int .i64 1)), none⟩ ::
    ⟨some 31, .mv 0 (.t 32), none⟩ ::
    []))
  (.cond (.t 31) (c16_3) (c16_11))
def c16_13 : HCode :=
  .block 0 (.seq (.region none (⟨some 25, .bin .eql (.t 23) (.c (.int .i64 0)), none⟩ ::
      ⟨some 24, .mv 0 (.t 25), none⟩ ::
      []))
    (.cond (.t 24) (c16_2) (c16_12)))
def c16_14 : HCode :=
  .seq (.region none (⟨some 67, .mv 3 (.t 9), none⟩ ::
    ⟨some 8, .mv 3 (.t 67), none⟩ ::
    []))
  (.ret)
def c16_15 : HCode :=
  .seq (.seq (.region none (⟨some 22, .mv 0 (.t 3), none⟩ ::
    ⟨some 23, .call 20 [(.t 22), (.c (.int .i64 6))], none⟩ ::
    []))
  (c16_13))
  (c16_14)
def c16_16 : HCode :=
  .seq (.region none (⟨some 18, .mv 0 (.t 2), none⟩ ::
    ⟨some 19, .mv 3 (.t 9), none⟩ ::
    ⟨some 20, .len (.t 19), none⟩ ::
    ⟨some 21, .call 20 [(.t 18), (.t 20)], none⟩ ::
    ⟨some 10, .mv 0 (.t 21), none⟩ ::
    []))
  (c16_15)
def c16_17 : HCode :=
  .seq (.seq (.region none (⟨some 14, .mv 3 (.t 9), none⟩ ::
    ⟨some 15, .len (.t 14), none⟩ ::
    ⟨some 16, .bin .eql (.t 15) (.c (.int .i64 0)), none⟩ ::
    []))
  (.cond (.t 16) (c16_1) (.skip)))
  (c16_16)
def c16_18 : HCode :=
  .seq (.region none (⟨some 11, .bsl 3 0 [], none⟩ ::
    ⟨some 12, .mv 3 (.t 0), none⟩ ::
    ⟨some 13, .app true 3 24 (.t 11) (.t 12), none⟩ ::
    ⟨some 9, .mv 3 (.t 13), none⟩ ::
    []))
  (c16_17)
def c16 : HCode :=
  .seq (.region none (⟨some 8, .mv 3 (.c (.nils)), none⟩ ::
    []))
  (c16_18)
theorem fc16 : funCode Try.prog 16 = some (c16, [8], 68) := by kernel_rfl

def c17_1 : HCode :=
  .seq (.region none (⟨some 8, .mv 0 (.c (.bool false)), none⟩ ::
    []))
  (.ret)
def c17_2 : HCode :=
  .seq (.region none (⟨some 8, .mv 0 (.c (.bool false)), none⟩ ::
    []))
  (.ret)
def c17_3 : HCode :=
  .seq (.region none (⟨some 55, .faddr 0 (.t 10), none⟩ ::
    ⟨some 56, .load false 1 (.t 55), none⟩ ::
    ⟨some 57, .bin .lss (.t 56) (.c (.int .i64 0)), none⟩ ::
    ⟨some 58, .mv 0 (.t 57), none⟩ ::
    ⟨some 59, .faddr 0 (.t 10), some (3, false)⟩ ::
    ⟨some 60, .load false 1 (.t 59), some (3, false)⟩ ::
    ⟨some 61, .mv 0 (.t 0), some (3, false)⟩ ::
    ⟨some 62, .bin .geq (.t 60) (.t 61), some (3, false)⟩ ::
    ⟨some 63, .pick (.t 58) (.c (.bool true)) (.t 62), none⟩ ::
    ⟨some 64, .mv 0 (.t 63), none⟩ ::
    ⟨some 65, .faddr 1 (.t 10), some (9, false)⟩ ::
    ⟨some 66, .load false 1 (.t 65), some (9, false)⟩ ::
    ⟨some 67, .bin .lss (.t 66) (.c (.int .i64 0)), some (9, false)⟩ ::
    ⟨some 68, .pick (.t 64) (.c (.bool true)) (.t 67), none⟩ ::
    ⟨some 69, .mv 0 (.t 68), none⟩ ::
    ⟨some 70, .faddr 1 (.t 10), some (14, false)⟩ ::
    ⟨some 71, .load false 1 (.t 70), some (14, false)⟩ ::
    ⟨some 72, .mv 0 (.t 0), some (14, false)⟩ ::
    ⟨some 73, .bin .geq (.t 71) (.t 72), some (14, false)⟩ ::
    ⟨some 74, .pick (.t 69) (.c (.bool true)) (.t 73), none⟩ ::
    ⟨some 75, .mv 0 (.t 74), none⟩ ::
    ⟨some 76, .faddr 0 (.t 10), some (20, false)⟩ ::
    ⟨some 77, .load false 1 (.t 76), some (20, false)⟩ ::
    ⟨some 78, .faddr 1 (.t 10), some (20, false)⟩ ::
    ⟨some 79, .load false 1 (.t 78), some (20, false)⟩ ::
    ⟨some 80, .bin .eql (.t 77) (.t 79), some (20, false)⟩ ::
    ⟨some 81, .pick (.t 75) (.c (.bool true)) (.t 80), none⟩ ::
    ⟨some 82, .mv 0 (.t 81), none⟩ ::
    ⟨some 83, .faddr 2 (.t 10), some (27, false)⟩ ::
    ⟨some 84, .load false 1 (.t 83), some (27, false)⟩ ::
    ⟨some 85, .bin .lss (.t 84) (.c (.int .i64 0)), some (27, false)⟩ ::
    ⟨some 86, .pick (.t 82) (.c (.bool true)) (.t 85), none⟩ ::
    ⟨some 87, .mv 0 (.t 86), none⟩ ::
    ⟨some 88, .faddr 2 (.t 10), some (32, false)⟩ ::
    ⟨some 89, .load false 1 (.t 88), some (32, false)⟩ ::
    ⟨some 90, .bin .gtr (.t 89) (.c (.int .i64 1099511627776)), some (32, false)⟩ ::
    ⟨some 91, .pick (.t 87) (.c (.bool true)) (.t 90), none⟩ ::
    []))
  (.cond (.t 91) (c17_2) (.skip))
def c17_4 : HCode :=
  .region none (⟨some 49, .mv 0 (.t 9), none⟩ ::
    ⟨some 50, .bin .add (.t 49) (.c (.int .i64 1)), none⟩ ::
    ⟨some 9, .mv 0 (.t 50), none⟩ ::
    [])
def c17_5 : HCode :=
  .seq (.block 1 (.seq (.region none (⟨some 51, .mv 3 (.t 1), none⟩ ::
      ⟨some 52, .mv 0 (.t 9), none⟩ ::
      ⟨some 53, .iaddr 3 (.t 51) (.t 52), none⟩ ::
      ⟨some 54, .load true 3 (.t 53), none⟩ ::
      ⟨some 10, .newz [.int .i64 0, .int .i64 0, .int .i64 0], none⟩ ::
      ⟨none, .store true 3 (.t 10) (.t 54), none⟩ ::
      []))
    (c17_3)))
  (c17_4)
def c17_6 : HCode :=
  .seq (.seq (.region none (⟨some 45, .mv 0 (.t 9), none⟩ ::
    ⟨some 46, .mv 3 (.t 1), none⟩ ::
    ⟨some 47, .len (.t 46), none⟩ ::
    ⟨some 48, .bin .lss (.t 45) (.t 47), none⟩ ::
    []))
  (.cond (.t 48) (.skip) (.exit 0)))
  (c17_5)
def c17_7 : HCode :=
  .seq (.region none (⟨some 8, .mv 0 (.c (.bool true)), none⟩ ::
    []))
  (.ret)
def c17_8 : HCode :=
  .seq (.seq (.region none (⟨some 9, .mv 0 (.c (.int .i64 0)), none⟩ ::
    []))
  (.block 0 (.loop (c17_6))))
  (c17_7)
def c17_9 : HCode :=
  .seq (.seq (.region none (⟨some 11, .mv 0 (.t 0), none⟩ ::
    ⟨some 12, .bin .lss (.t 11) (.c (.int .i64 2)), none⟩ ::
    ⟨some 13, .mv 0 (.t 12), none⟩ ::
    ⟨some 14, .mv 0 (.t 0), some (2, false)⟩ ::
    ⟨some 15, .bin .gtr (.t 14) (.c (.int .i64 258)), some (2, false)⟩ ::
    ⟨some 16, .pick (.t 13) (.c (.bool true)) (.t 15), none⟩ ::
    ⟨some 17, .mv 0 (.t 16), none⟩ ::
    ⟨some 18, .mv 0 (.t 2), some (6, false)⟩ ::
    ⟨some 19, .bin .lss (.t 18) (.c (.int .i64 0)), some (6, false)⟩ ::
    ⟨some 20, .pick (.t 17) (.c (.bool true)) (.t 19), none⟩ ::
    ⟨some 21, .mv 0 (.t 20), none⟩ ::
    ⟨some 22, .mv 0 (.t 2), some (10, false)⟩ ::
    ⟨some 23, .mv 0 (.t 0), some (10, false)⟩ ::
    ⟨some 24, .bin .geq (.t 22) (.t 23), some (10, false)⟩ ::
    ⟨some 25, .pick (.t 21) (.c (.bool true)) (.t 24), none⟩ ::
    ⟨some 26, .mv 0 (.t 25), none⟩ ::
    ⟨some 27, .mv 0 (.t 3), some (15, false)⟩ ::
    ⟨some 28, .bin .lss (.t 27) (.c (.int .i64 0)), some (15, false)⟩ ::
    ⟨some 29, .pick (.t 26) (.c (.bool true)) (.t 28), none⟩ ::
    ⟨some 30, .mv 0 (.t 29), none⟩ ::
    ⟨some 31, .mv 0 (.t 3), some (19, false)⟩ ::
    ⟨some 32, .mv 0 (.t 0), some (19, false)⟩ ::
    ⟨some 33, .bin .geq (.t 31) (.t 32), some (19, false)⟩ ::
    ⟨some 34, .pick (.t 30) (.c (.bool true)) (.t 33), none⟩ ::
    ⟨some 35, .mv 0 (.t 34), none⟩ ::
    ⟨some 36, .mv 0 (.t 2), some (24, false)⟩ ::
    ⟨some 37, .mv 0 (.t 3), some (24, false)⟩ ::
    ⟨some 38, .bin .eql (.t 36) (.t 37), some (24, false)⟩ ::
    ⟨some 39, .pick (.t 35) (.c (.bool true)) (.t 38), none⟩ ::
    ⟨some 40, .mv 0 (.t 39), none⟩ ::
    ⟨some 41, .mv 3 (.t 1), some (29, false)⟩ ::
    ⟨some 42, .len (.t 41), some (29, false)⟩ ::
    ⟨some 43, .bin .gtr (.t 42) (.c (.int .i64 65536)), some (29, false)⟩ ::
    ⟨some 44, .pick (.t 40) (.c (.bool true)) (.t 43), none⟩ ::
    []))
  (.cond (.t 44) (c17_1) (.skip)))
  (c17_8)
def c17 : HCode :=
  .seq (.region none (⟨some 8, .mv 0 (.c (.bool false)), none⟩ ::
    []))
  (c17_9)
theorem fc17 : funCode Try.prog 17 = some (c17, [8], 92) := by kernel_rfl

def c18_1 : HCode :=
  .seq (.region none (⟨some 8, .mv 0 (.c (.bool false)), none⟩ ::
    []))
  (.ret)
def c18_2 : HCode :=
  .seq (.region none (⟨some 8, .mv 0 (.c (.bool false)), none⟩ ::
    []))
  (.ret)
def c18_3 : HCode :=
  .seq (.region none (⟨some 51, .faddr 0 (.t 10), none⟩ ::
    ⟨some 52, .load false 1 (.t 51), none⟩ ::
    ⟨some 53, .bin .lss (.t 52) (.c (.int .i64 0)), none⟩ ::
    ⟨some 54, .mv 0 (.t 53), none⟩ ::
    ⟨some 55, .faddr 0 (.t 10), some (3, false)⟩ ::
    ⟨some 56, .load false 1 (.t 55), some (3, false)⟩ ::
    ⟨some 57, .mv 0 (.t 0), some (3, false)⟩ ::
    ⟨some 58, .bin .geq (.t 56) (.t 57), some (3, false)⟩ ::
    ⟨some 59, .pick (.t 54) (.c (.bool true)) (.t 58), none⟩ ::
    ⟨some 60, .mv 0 (.t 59), none⟩ ::
    ⟨some 61, .faddr 1 (.t 10), some (9, false)⟩ ::
    ⟨some 62, .load false 1 (.t 61), some (9, false)⟩ ::
    ⟨some 63, .bin .lss (.t 62) (.c (.int .i64 0)), some (9, false)⟩ ::
    ⟨some 64, .pick (.t 60) (.c (.bool true)) (.t 63), none⟩ ::
    ⟨some 65, .mv 0 (.t 64), none⟩ ::
    ⟨some 66, .faddr 1 (.t 10), some (14, false)⟩ ::
    ⟨some 67, .load false 1 (.t 66), some (14, false)⟩ ::
    ⟨some 68, .mv 0 (.t 0), some (14, false)⟩ ::
    ⟨some 69, .bin .geq (.t 67) (.t 68), some (14, false)⟩ ::
    ⟨some 70, .pick (.t 65) (.c (.bool true)) (.t 69), none⟩ ::
    ⟨some 71, .mv 0 (.t 70), none⟩ ::
    ⟨some 72, .faddr 0 (.t 10), some (20, false)⟩ ::
    ⟨some 73, .load false 1 (.t 72), some (20, false)⟩ ::
    ⟨some 74, .faddr 1 (.t 10), some (20, false)⟩ ::
    ⟨some 75, .load false 1 (.t 74), some (20, false)⟩ ::
    ⟨some 76, .bin .eql (.t 73) (.t 75), some (20, false)⟩ ::
    ⟨some 77, .pick (.t 71) (.c (.bool true)) (.t 76), none⟩ ::
    ⟨some 78, .mv 0 (.t 77), none⟩ ::
    ⟨some 79, .faddr 2 (.t 10), some (27, false)⟩ ::
    ⟨some 80, .load false 1 (.t 79), some (27, false)⟩ ::
    ⟨some 81, .bin .lss (.t 80) (.c (.int .i64 0)), some (27, false)⟩ ::
    ⟨some 82, .pick (.t 78) (.c (.bool true)) (.t 81), none⟩ ::
    ⟨some 83, .mv 0 (.t 82), none⟩ ::
    ⟨some 84, .faddr 2 (.t 10), some (32, false)⟩ ::
    ⟨some 85, .load false 1 (.t 84), some (32, false)⟩ ::
    ⟨some 86, .bin .gtr (.t 85) (.c (.int .i64 1099511627776)), some (32, false)⟩ ::
    ⟨some 87, .pick (.t 83) (.c (.bool true)) (.t 86), none⟩ ::
    []))
  (.cond (.t 87) (c18_2) (.skip))
def c18_4 : HCode :=
  .region none (⟨some 88, .bin .add (.t 47) (.c (.int .i64 1)), none⟩ ::
    ⟨some 47, .mv 0 (.t 88), none⟩ ::
    [])
def c18_5 : HCode :=
  .seq (.block 1 (.seq (.region none (⟨some 49, .iaddr 3 (.t 45) (.t 47), none⟩ ::
      ⟨some 50, .load true 3 (.t 49), none⟩ ::
      ⟨some 10, .newz [.int .i64 0, .int .i64 0, .int .i64 0], none⟩ ::
      ⟨none, .store true 3 (.t 10) (.t 50), none⟩ ::
      []))
    (c18_3)))
  (c18_4)
def c18_6 : HCode :=
  .seq (.region none (⟨some 48, .bin .lss (.t 47) (.t 46), none⟩ ::
    []))
  (.seq (.cond (.t 48) (.skip) (.exit 0))
  (c18_5))
def c18_7 : HCode :=
  .seq (.region none (⟨some 8, .mv 0 (.c (.bool true)), none⟩ ::
    []))
  (.ret)
def c18_8 : HCode :=
  .seq (.seq (.region none (⟨some 45, .mv 3 (.t 1), none⟩ ::
    ⟨some 46, .len (.t 45), none⟩ ::
    ⟨some 47, .mv 0 (.c (.int .i64 0)), none⟩ ::
    []))
  (.block 0 (.loop (c18_6))))
  (c18_7)
def c18_9 : HCode :=
  .seq (.seq (.region none (⟨some 11, .mv 0 (.t 0), none⟩ ::
    ⟨some 12, .bin .lss (.t 11) (.c (.int .i64 2)), none⟩ ::
    ⟨some 13, .mv 0 (.t 12), none⟩ ::
    ⟨some 14, .mv 0 (.t 0), some (2, false)⟩ ::
    ⟨some 15, .bin .gtr (.t 14) (.c (.int .i64 258)), some (2, false)⟩ ::
    ⟨some 16, .pick (.t 13) (.c (.bool true)) (.t 15), none⟩ ::
    ⟨some 17, .mv 0 (.t 16), none⟩ ::
    ⟨some 18, .mv 0 (.t 2), some (6, false)⟩ ::
    ⟨some 19, .bin .lss (.t 18) (.c (.int .i64 0)), some (6, false)⟩ ::
    ⟨some 20, .pick (.t 17) (.c (.bool true)) (.t 19), none⟩ ::
    ⟨some 21, .mv 0 (.t 20), none⟩ ::
    ⟨some 22, .mv 0 (.t 2), some (10, false)⟩ ::
    ⟨some 23, .mv 0 (.t 0), some (10, false)⟩ ::
    ⟨some 24, .bin .geq (.t 22) (.t 23), some (10, false)⟩ ::
    ⟨some 25, .pick (.t 21) (.c (.bool true)) (.t 24), none⟩ ::
    ⟨some 26, .mv 0 (.t 25), none⟩ ::
    ⟨some 27, .mv 0 (.t 3), some (15, false)⟩ ::
    ⟨some 28, .bin .lss (.t 27) (.c (.int .i64 0)), some (15, false)⟩ ::
    ⟨some 29, .pick (.t 26) (.c (.bool true)) (.t 28), none⟩ ::
    ⟨some 30, .mv 0 (.t 29), none⟩ ::
    ⟨some 31, .mv 0 (.t 3), some (19, false)⟩ ::
    ⟨some 32, .mv 0 (.t 0), some (19, false)⟩ ::
    ⟨some 33, .bin .geq (.t 31) (.t 32), some (19, false)⟩ ::
    ⟨some 34, .pick (.t 30) (.c (.bool true)) (.t 33), none⟩ ::
    ⟨some 35, .mv 0 (.t 34), none⟩ ::
    ⟨some 36, .mv 0 (.t 2), some (24, false)⟩ ::
    ⟨some 37, .mv 0 (.t 3), some (24, false)⟩ ::
    ⟨some 38, .bin .eql (.t 36) (.t 37), some (24, false)⟩ ::
    ⟨some 39, .pick (.t 35) (.c (.bool true)) (.t 38), none⟩ ::
    ⟨some 40, .mv 0 (.t 39), none⟩ ::
    ⟨some 41, .mv 3 (.t 1), some (29, false)⟩ ::
    ⟨some 42, .len (.t 41), some (29, false)⟩ ::
    ⟨some 43, .bin .gtr (.t 42) (.c (.int .i64 65536)), some (29, false)⟩ ::
    ⟨some 44, .pick (.t 40) (.c (.bool true)) (.t 43), none⟩ ::
    []))
  (.cond (.t 44) (c18_1) (.skip)))
  (c18_8)
def c18 : HCode :=
  .seq (.region none (⟨some 8, .mv 0 (.c (.bool false)), none⟩ ::
    []))
  (c18_9)
theorem fc18 : funCode Try.prog 18 = some (c18, [8], 89) := by kernel_rfl

def c19_1 : HCode :=
  .seq (.region none (⟨some 54, .mv 0 (.t 2), none⟩ ::
    ⟨some 55, .bin .eql (.t 54) (.c (.int .i64 5)), none⟩ ::
    ⟨some 56, .mv 0 (.t 55), none⟩ ::
    ⟨some 57, .mv 1 (.t 3), some (2, true)⟩ ::
    ⟨some 58, .bsl 1 5 [(.c (.int .i64 3)), (.c (.int .i64 2)), (.c (.int .i64 2)), (.c (.int .i64 3)), (.c (.int .i64 1))], some (2, true)⟩ ::
    ⟨some 59, .call 34 [(.t 57), (.t 58)], some (2, true)⟩ ::
    ⟨some 60, .pick (.t 56) (.t 59) (.c (.bool false)), none⟩ ::
    ⟨some 61, .mv 0 (.t 60), none⟩ ::
    ⟨some 62, .mv 0 (.t 4), some (7, true)⟩ ::
    ⟨some 63, .bin .eql (.t 62) (.c (.int .i64 0)), some (7, true)⟩ ::
    ⟨some 64, .pick (.t 61) (.t 63) (.c (.bool false)), none⟩ ::
    ⟨some 65, .mv 0 (.t 64), none⟩ ::
    ⟨some 66, .mv 1 (.t 5), some (11, true)⟩ ::
    ⟨some 67, .bsl 1 4 [(.c (.bool true)), (.c (.bool false)), (.c (.bool false)), (.c (.bool false))], some (11, true)⟩ ::
    ⟨some 68, .call 15 [(.t 66), (.t 67)], some (11, true)⟩ ::
    ⟨some 69, .pick (.t 65) (.t 68) (.c (.bool false)), none⟩ ::
    ⟨some 70, .mv 0 (.t 69), none⟩ ::
    ⟨some 71, .mv 0 (.t 6), some (16, true)⟩ ::
    ⟨some 72, .bin .eql (.t 71) (.c (.int .i64 0)), some (16, true)⟩ ::
    ⟨some 73, .pick (.t 70) (.t 72) (.c (.bool false)), none⟩ ::
    ⟨some 74, .mv 0 (.t 73), none⟩ ::
    ⟨some 75, .mv 0 (.t 7), some (20, true)⟩ ::
    ⟨some 76, .bin .eql (.t 75) (.c (.int .i64 2)), some (20, true)⟩ ::
    ⟨some 77, .pick (.t 74) (.t 76) (.c (.bool false)), none⟩ ::
    ⟨some 78, .mv 0 (.t 77), none⟩ ::
    ⟨some 79, .mv 0 (.t 8), some (24, true)⟩ ::
    ⟨some 80, .bin .eql (.t 79) (.c (.int .i64 0)), some (24, true)⟩ ::
    ⟨some 81, .pick (.t 78) (.t 80) (.c (.bool false)), none⟩ ::
    ⟨some 82, .mv 0 (.t 81), none⟩ ::
    ⟨some 83, .mv 0 (.t 10), some (28, true)⟩ ::
    ⟨some 84, .bin .eql (.t 83) (.c (.int .i64 24)), some (28, true)⟩ ::
    ⟨some 85, .pick (.t 82) (.t 84) (.c (.bool false)), none⟩ ::
    ⟨some 86, .mv 0 (.t 85), none⟩ ::
    ⟨some 87, .mv 0 (.t 12), some (32, true)⟩ ::
    ⟨some 88, .bin .eql (.t 87) (.c (.int .i64 5)), some (32, true)⟩ ::
    ⟨some 89, .pick (.t 86) (.t 88) (.c (.bool false)), none⟩ ::
    ⟨some 90, .mv 0 (.t 89), none⟩ ::
    ⟨some 91, .mv 0 (.t 13), some (36, true)⟩ ::
    ⟨some 92, .pick (.t 90) (.t 91) (.c (.bool false)), none⟩ ::
    ⟨some 0, .mv 0 (.t 92), none⟩ ::
    []))
  (.ret)
def c19_2 : HCode :=
  .seq (.region none (⟨some 44, .mv 3 (.t 1), none⟩ ::
    ⟨some 45, .bsl 1 4 [(.c (.bool true)), (.c (.bool true)), (.c (.bool false)), (.c (.bool false))], none⟩ ::
    ⟨some 46, .call 24 [(.c (.int .i64 4)), (.t 44), (.t 45)], none⟩ ::
    ⟨some 47, .bin .eql (.t 46) (.c (.int .i64 5)), none⟩ ::
    ⟨some 48, .mv 0 (.t 47), none⟩ ::
    ⟨some 49, .mv 3 (.t 1), some (4, true)⟩ ::
    ⟨some 50, .bsl 1 4 [(.c (.bool true)), (.c (.bool true)), (.c (.bool true)), (.c (.bool false))], some (4, true)⟩ ::
    ⟨some 51, .call 24 [(.c (.int .i64 4)), (.t 49), (.t 50)], some (4, true)⟩ ::
    ⟨some 52, .bin .eql (.t 51) (.c (.int .i64 6)), some (4, true)⟩ ::
    ⟨some 53, .pick (.t 48) (.t 52) (.c (.bool false)), none⟩ ::
    ⟨some 13, .mv 0 (.t 53), none⟩ ::
    []))
  (c19_1)
def c19_3 : HCode :=
  .seq (.region none (⟨some 39, .mv 3 (.t 1), none⟩ ::
    ⟨some 40, .bsl 1 5 [(.c (.int .i64 4)), (.c (.int .i64 0)), (.c (.int .i64 2)), (.c (.int .i64 0)), (.c (.int .i64 0))], none⟩ ::
    ⟨some 41, .call 21 [(.c (.int .i64 4)), (.t 39), (.c (.int .i64 0)), (.c (.int .i64 3)), (.t 40)], none⟩ ::
    ⟨some 38, .mv 0 (.t 41), none⟩ ::
    ⟨some 42, .ext (.t 38) 0, none⟩ ::
    ⟨some 43, .ext (.t 38) 1, none⟩ ::
    ⟨some 11, .mv 0 (.t 42), none⟩ ::
    ⟨some 12, .mv 0 (.t 43), none⟩ ::
    []))
  (c19_2)
def c19_4 : HCode :=
  .seq (.region none (⟨some 33, .mv 3 (.t 1), none⟩ ::
    ⟨some 34, .bsl 1 5 [(.c (.int .i64 2)), (.c (.int .i64 0)), (.c (.int .i64 1)), (.c (.int .i64 0)), (.c (.int .i64 0))], none⟩ ::
    ⟨some 35, .call 21 [(.c (.int .i64 4)), (.t 33), (.c (.int .i64 0)), (.c (.int .i64 3)), (.t 34)], none⟩ ::
    ⟨some 32, .mv 0 (.t 35), none⟩ ::
    ⟨some 36, .ext (.t 32) 0, none⟩ ::
    ⟨some 37, .ext (.t 32) 1, none⟩ ::
    ⟨some 9, .mv 0 (.t 36), none⟩ ::
    ⟨some 10, .mv 0 (.t 37), none⟩ ::
    []))
  (c19_3)
def c19_5 : HCode :=
  .seq (.region none (⟨some 27, .mv 3 (.t 1), none⟩ ::
    ⟨some 28, .bsl 1 5 [(.c (.int .i64 2)), (.c (.int .i64 0)), (.c (.int .i64 2)), (.c (.int .i64 0)), (.c (.int .i64 0))], none⟩ ::
    ⟨some 29, .call 21 [(.c (.int .i64 4)), (.t 27), (.c (.int .i64 0)), (.c (.int .i64 3)), (.t 28)], none⟩ ::
    ⟨some 26, .mv 0 (.t 29), none⟩ ::
    ⟨some 30, .ext (.t 26) 0, none⟩ ::
    ⟨some 31, .ext (.t 26) 1, none⟩ ::
    ⟨some 7, .mv 0 (.t 30), none⟩ ::
    ⟨some 8, .mv 0 (.t 31), none⟩ ::
    []))
  (c19_4)
def c19_6 : HCode :=
  .seq (.region none (⟨some 22, .mv 3 (.t 1), none⟩ ::
    ⟨some 23, .call 14 [(.c (.int .i64 4)), (.t 22), (.c (.int .i64 0)), (.c (.int .i64 3))], none⟩ ::
    ⟨some 21, .mv 0 (.t 23), none⟩ ::
    ⟨some 24, .ext (.t 21) 0, none⟩ ::
    ⟨some 25, .ext (.t 21) 1, none⟩ ::
    ⟨some 5, .mv 1 (.t 24), none⟩ ::
    ⟨some 6, .mv 0 (.t 25), none⟩ ::
    []))
  (c19_5)
def c19_7 : HCode :=
  .seq (.region none (⟨some 16, .mv 3 (.t 1), none⟩ ::
    ⟨some 17, .call 13 [(.c (.int .i64 4)), (.t 16), (.c (.int .i64 0)), (.c (.int .i64 3))], none⟩ ::
    ⟨some 15, .mv 0 (.t 17), none⟩ ::
    ⟨some 18, .ext (.t 15) 0, none⟩ ::
    ⟨some 19, .ext (.t 15) 1, none⟩ ::
    ⟨some 20, .ext (.t 15) 2, none⟩ ::
    ⟨some 2, .mv 0 (.t 18), none⟩ ::
    ⟨some 3, .mv 1 (.t 19), none⟩ ::
    ⟨some 4, .mv 0 (.t 20), none⟩ ::
    []))
  (c19_6)
def c19_8 : HCode :=
  .seq (.region none (⟨some 14, .call 33 [], none⟩ ::
    ⟨some 1, .mv 3 (.t 14), none⟩ ::
    []))
  (c19_7)
def c19 : HCode :=
  .seq (.region none (⟨some 0, .mv 0 (.c (.bool false)), none⟩ ::
    []))
  (c19_8)
theorem fc19 : funCode Try.prog 19 = some (c19, [0], 93) := by kernel_rfl

def c20_1 : HCode :=
  .seq (.region none (⟨some 4, .mv 0 (.c (.int .i64 0)), none⟩ ::
    []))
  (.ret)
def c20_2 : HCode :=
  .seq (.region none (⟨some 7, .mv 0 (.t 0), none⟩ ::
    ⟨some 8, .mv 0 (.t 1), none⟩ ::
    ⟨some 9, .bin .rem (.t 7) (.t 8), none⟩ ::
    ⟨some 10, .mv 0 (.t 1), none⟩ ::
    ⟨some 11, .bin .add (.t 9) (.t 10), none⟩ ::
    ⟨some 12, .mv 0 (.t 1), none⟩ ::
    ⟨some 13, .bin .rem (.t 11) (.t 12), none⟩ ::
    ⟨some 4, .mv 0 (.t 13), none⟩ ::
    []))
  (.ret)
def c20_3 : HCode :=
  .seq (.seq (.region none (⟨some 5, .mv 0 (.t 1), none⟩ ::
    ⟨some 6, .bin .leq (.t 5) (.c (.int .i64 0)), none⟩ ::
    []))
  (.cond (.t 6) (c20_1) (.skip)))
  (c20_2)
def c20 : HCode :=
  .seq (.region none (⟨some 4, .mv 0 (.c (.int .i64 0)), none⟩ ::
    []))
  (c20_3)
theorem fc20 : funCode Try.prog 20 = some (c20, [4], 14) := by kernel_rfl

def c21_1 : HCode :=
  .seq (.region none (⟨some 10, .mv 0 (.c (.int .i64 0)), none⟩ ::
    ⟨some 11, .mv 0 (.c (.int .i64 1)), none⟩ ::
    []))
  (.ret)
def c21_2 : HCode :=
  .seq (.region none (⟨some 10, .mv 0 (.c (.int .i64 0)), none⟩ ::
    ⟨some 11, .mv 0 (.c (.int .i64 5)), none⟩ ::
    []))
  (.ret)
def c21_3 : HCode :=
  .region (some [0, 0, 2, 7, 15, 0, 0, 96, 224, 511, 1023, 2047]) (⟨some 64, .mv 1 (.t 12), none⟩ ::
    ⟨some 65, .faddr 1 (.t 14), none⟩ ::
    ⟨some 66, .load false 1 (.t 65), none⟩ ::
    ⟨some 67, .iaddr 1 (.t 64) (.t 66), none⟩ ::
    ⟨some 68, .load false 1 (.t 67), none⟩ ::
    ⟨some 69, .mv 1 (.t 4), none⟩ ::
    ⟨some 70, .mv 0 (.t 13), none⟩ ::
    ⟨some 71, .iaddr 1 (.t 69) (.t 70), none⟩ ::
    ⟨some 72, .load false 1 (.t 71), none⟩ ::
    ⟨some 73, .bin .sub (.t 68) (.t 72), none⟩ ::
    ⟨some 74, .iaddr 1 (.t 64) (.t 66), none⟩ ::
    ⟨none, .store true 1 (.t 74) (.t 73), none⟩ ::
    [])
def c21_4 : HCode :=
  .seq (.region (some [0, 0, 2, 7, 15, 0, 0, 96, 224, 511, 1023, 2047]) (⟨some 53, .mv 1 (.t 12), none⟩ ::
    ⟨some 54, .faddr 0 (.t 14), none⟩ ::
    ⟨some 55, .load false 1 (.t 54), none⟩ ::
    ⟨some 56, .iaddr 1 (.t 53) (.t 55), none⟩ ::
    ⟨some 57, .load false 1 (.t 56), none⟩ ::
    ⟨some 58, .mv 1 (.t 4), none⟩ ::
    ⟨some 59, .mv 0 (.t 13), none⟩ ::
    ⟨some 60, .iaddr 1 (.t 58) (.t 59), none⟩ ::
    ⟨some 61, .load false 1 (.t 60), none⟩ ::
    ⟨some 62, .bin .add (.t 57) (.t 61), none⟩ ::
    ⟨some 63, .iaddr 1 (.t 53) (.t 55), none⟩ ::
    ⟨none, .store true 1 (.t 63) (.t 62), none⟩ ::
    []))
  (c21_3)
def c21_5 : HCode :=
  .seq (.seq (.region (some [0, 0, 3, 7, 15, 31, 63, 63, 255, 511, 63, 1087, 4095, 8191]) (⟨some 39, .mv 1 (.t 4), none⟩ ::
    ⟨some 40, .mv 0 (.t 13), none⟩ ::
    ⟨some 41, .iaddr 1 (.t 39) (.t 40), none⟩ ::
    ⟨some 42, .load false 1 (.t 41), none⟩ ::
    ⟨some 43, .bin .lss (.t 42) (.c (.int .i64 0)), none⟩ ::
    ⟨some 44, .mv 0 (.t 43), none⟩ ::
    ⟨some 45, .mv 1 (.t 4), some (5, false)⟩ ::
    ⟨some 46, .mv 0 (.t 13), some (5, false)⟩ ::
    ⟨some 47, .iaddr 1 (.t 45) (.t 46), some (5, false)⟩ ::
    ⟨some 48, .load false 1 (.t 47), some (5, false)⟩ ::
    ⟨some 49, .faddr 2 (.t 14), some (5, false)⟩ ::
    ⟨some 50, .load false 1 (.t 49), some (5, false)⟩ ::
    ⟨some 51, .bin .gtr (.t 48) (.t 50), some (5, false)⟩ ::
    ⟨some 52, .pick (.t 44) (.c (.bool true)) (.t 51), none⟩ ::
    []))
  (.cond (.t 52) (c21_2) (.skip)))
  (c21_4)
def c21_6 : HCode :=
  .region none (⟨some 75, .bin .add (.t 34) (.c (.int .i64 1)), none⟩ ::
    ⟨some 34, .mv 0 (.t 75), none⟩ ::
    [])
def c21_7 : HCode :=
  .seq (.block 1 (.seq (.region none (⟨some 36, .mv 0 (.t 34), none⟩ ::
      ⟨some 37, .iaddr 3 (.t 32) (.t 34), none⟩ ::
      ⟨some 38, .load true 3 (.t 37), none⟩ ::
      ⟨some 14, .newz [.int .i64 0, .int .i64 0, .int .i64 0], none⟩ ::
      ⟨some 13, .mv 0 (.t 36), none⟩ ::
      ⟨none, .store true 3 (.t 14) (.t 38), none⟩ ::
      []))
    (c21_5)))
  (c21_6)
def c21_8 : HCode :=
  .seq (.region none (⟨some 35, .bin .lss (.t 34) (.t 33), none⟩ ::
    []))
  (.seq (.cond (.t 35) (.skip) (.exit 0))
  (c21_7))
def c21_9 : HCode :=
  .seq (.region none (⟨some 10, .mv 0 (.c (.int .i64 0)), none⟩ ::
    ⟨some 11, .mv 0 (.c (.int .i64 24)), none⟩ ::
    []))
  (.ret)
def c21_10 : HCode :=
  .seq (.region none (⟨some 83, .mv 0 (.t 15), none⟩ ::
    ⟨some 84, .mv 0 (.t 2), none⟩ ::
    ⟨some 85, .bin .neq (.t 83) (.t 84), none⟩ ::
    ⟨some 86, .mv 0 (.t 85), none⟩ ::
    ⟨some 87, .mv 0 (.t 15), some (3, true)⟩ ::
    ⟨some 88, .mv 0 (.t 3), some (3, true)⟩ ::
    ⟨some 89, .bin .neq (.t 87) (.t 88), some (3, true)⟩ ::
    ⟨some 90, .pick (.t 86) (.t 89) (.c (.bool false)), none⟩ ::
    ⟨some 91, .mv 0 (.t 90), none⟩ ::
    ⟨some 92, .mv 0 (.t 16), some (8, true)⟩ ::
    ⟨some 93, .bin .neq (.t 92) (.c (.int .i64 0)), some (8, true)⟩ ::
    ⟨some 94, .pick (.t 91) (.t 93) (.c (.bool false)), none⟩ ::
    []))
  (.cond (.t 94) (c21_9) (.skip))
def c21_11 : HCode :=
  .region none (⟨some 95, .bin .add (.t 78) (.c (.int .i64 1)), none⟩ ::
    ⟨some 78, .mv 0 (.t 95), none⟩ ::
    [])
def c21_12 : HCode :=
  .seq (.block 3 (.seq (.region none (⟨some 80, .mv 0 (.t 78), none⟩ ::
      ⟨some 81, .iaddr 1 (.t 76) (.t 78), none⟩ ::
      ⟨some 82, .load false 1 (.t 81), none⟩ ::
      ⟨some 15, .mv 0 (.t 80), none⟩ ::
      ⟨some 16, .mv 0 (.t 82), none⟩ ::
      []))
    (c21_10)))
  (c21_11)
def c21_13 : HCode :=
  .seq (.region none (⟨some 79, .bin .lss (.t 78) (.t 77), none⟩ ::
    []))
  (.seq (.cond (.t 79) (.skip) (.exit 2))
  (c21_12))
def c21_14 : HCode :=
  .seq (.region none (⟨some 96, .mv 1 (.t 12), none⟩ ::
    ⟨some 97, .mv 0 (.t 2), none⟩ ::
    ⟨some 98, .iaddr 1 (.t 96) (.t 97), none⟩ ::
    ⟨some 99, .load false 1 (.t 98), none⟩ ::
    ⟨some 10, .mv 0 (.t 99), none⟩ ::
    ⟨some 11, .mv 0 (.c (.int .i64 0)), none⟩ ::
    []))
  (.ret)
def c21_15 : HCode :=
  .seq (.seq (.region none (⟨some 76, .mv 1 (.t 12), none⟩ ::
    ⟨some 77, .len (.t 76), none⟩ ::
    ⟨some 78, .mv 0 (.c (.int .i64 0)), none⟩ ::
    []))
  (.block 2 (.loop (c21_13))))
  (c21_14)
def c21_16 : HCode :=
  .seq (.seq (.region none (⟨some 32, .mv 3 (.t 1), none⟩ ::
    ⟨some 33, .len (.t 32), none⟩ ::
    ⟨some 34, .mv 0 (.c (.int .i64 0)), none⟩ ::
    []))
  (.block 0 (.loop (c21_8))))
  (c21_15)
def c21_17 : HCode :=
  .seq (.region none (⟨some 30, .mv 0 (.t 0), none⟩ ::
    ⟨some 31, .mksl 1 8 [.int .i64 0] (.t 30), none⟩ ::
    ⟨some 12, .mv 1 (.t 31), none⟩ ::
    []))
  (c21_16)
def c21_18 : HCode :=
  .seq (.seq (.region none (⟨some 17, .mv 0 (.t 0), none⟩ ::
    ⟨some 18, .mv 3 (.t 1), none⟩ ::
    ⟨some 19, .mv 0 (.t 2), none⟩ ::
    ⟨some 20, .mv 0 (.t 3), none⟩ ::
    ⟨some 21, .call 18 [(.t 17), (.t 18), (.t 19), (.t 20)], none⟩ ::
    ⟨some 22, .un .not (.t 21), none⟩ ::
    ⟨some 23, .mv 0 (.t 22), none⟩ ::
    ⟨some 24, .mv 1 (.t 4), some (6, false)⟩ ::
    ⟨some 25, .len (.t 24), some (6, false)⟩ ::
    ⟨some 26, .mv 3 (.t 1), some (6, false)⟩ ::
    ⟨some 27, .len (.t 26), some (6, false)⟩ ::
    ⟨some 28, .bin .neq (.t 25) (.t 27), some (6, false)⟩ ::
    ⟨some 29, .pick (.t 23) (.c (.bool true)) (.t 28), none⟩ ::
    []))
  (.cond (.t 29) (c21_1) (.skip)))
  (c21_17)
def c21 : HCode :=
  .seq (.region none (⟨some 10, .mv 0 (.c (.int .i64 0)), none⟩ ::
    ⟨some 11, .mv 0 (.c (.int .i64 0)), none⟩ ::
    []))
  (c21_18)
theorem fc21 : funCode Try.prog 21 = some (c21, [10, 11], 100) := by kernel_rfl

def c22_1 : HCode :=
  .seq (.region none (⟨some 10, .mv 0 (.c (.int .i64 0)), none⟩ ::
    ⟨some 11, .mv 0 (.c (.int .i64 1)), none⟩ ::
    []))
  (.ret)
def c22_2 : HCode :=
  .seq (.region none (⟨some 10, .mv 0 (.c (.int .i64 0)), none⟩ ::
    ⟨some 11, .mv 0 (.c (.int .i64 5)), none⟩ ::
    []))
  (.ret)
def c22_3 : HCode :=
  .region (some [0, 0, 0, 6, 14, 30, 0, 0, 0, 384, 896, 1920, 4032, 8128, 0, 0, 49152, 114688, 262080, 524287, 1048575]) (⟨some 73, .mv 1 (.t 12), none⟩ ::
    ⟨some 74, .mv 3 (.t 1), none⟩ ::
    ⟨some 75, .mv 0 (.t 13), none⟩ ::
    ⟨some 76, .iaddr 3 (.t 74) (.t 75), none⟩ ::
    ⟨some 77, .faddr 1 (.t 76), none⟩ ::
    ⟨some 78, .load false 1 (.t 77), none⟩ ::
    ⟨some 79, .mv 1 (.t 12), none⟩ ::
    ⟨some 80, .mv 3 (.t 1), none⟩ ::
    ⟨some 81, .mv 0 (.t 13), none⟩ ::
    ⟨some 82, .iaddr 3 (.t 80) (.t 81), none⟩ ::
    ⟨some 83, .faddr 1 (.t 82), none⟩ ::
    ⟨some 84, .load false 1 (.t 83), none⟩ ::
    ⟨some 85, .iaddr 1 (.t 79) (.t 84), none⟩ ::
    ⟨some 86, .load false 1 (.t 85), none⟩ ::
    ⟨some 87, .mv 1 (.t 4), none⟩ ::
    ⟨some 88, .mv 0 (.t 13), none⟩ ::
    ⟨some 89, .iaddr 1 (.t 87) (.t 88), none⟩ ::
    ⟨some 90, .load false 1 (.t 89), none⟩ ::
    ⟨some 91, .bin .sub (.t 86) (.t 90), none⟩ ::
    ⟨some 92, .iaddr 1 (.t 73) (.t 78), none⟩ ::
    ⟨none, .store true 1 (.t 92) (.t 91), none⟩ ::
    [])
def c22_4 : HCode :=
  .seq (.region (some [0, 0, 0, 6, 14, 30, 0, 0, 0, 384, 896, 1920, 4032, 8128, 0, 0, 49152, 114688, 262080, 524287, 1048575]) (⟨some 53, .mv 1 (.t 12), none⟩ ::
    ⟨some 54, .mv 3 (.t 1), none⟩ ::
    ⟨some 55, .mv 0 (.t 13), none⟩ ::
    ⟨some 56, .iaddr 3 (.t 54) (.t 55), none⟩ ::
    ⟨some 57, .faddr 0 (.t 56), none⟩ ::
    ⟨some 58, .load false 1 (.t 57), none⟩ ::
    ⟨some 59, .mv 1 (.t 12), none⟩ ::
    ⟨some 60, .mv 3 (.t 1), none⟩ ::
    ⟨some 61, .mv 0 (.t 13), none⟩ ::
    ⟨some 62, .iaddr 3 (.t 60) (.t 61), none⟩ ::
    ⟨some 63, .faddr 0 (.t 62), none⟩ ::
    ⟨some 64, .load false 1 (.t 63), none⟩ ::
    ⟨some 65, .iaddr 1 (.t 59) (.t 64), none⟩ ::
    ⟨some 66, .load false 1 (.t 65), none⟩ ::
    ⟨some 67, .mv 1 (.t 4), none⟩ ::
    ⟨some 68, .mv 0 (.t 13), none⟩ ::
    ⟨some 69, .iaddr 1 (.t 67) (.t 68), none⟩ ::
    ⟨some 70, .load false 1 (.t 69), none⟩ ::
    ⟨some 71, .bin .add (.t 66) (.t 70), none⟩ ::
    ⟨some 72, .iaddr 1 (.t 53) (.t 58), none⟩ ::
    ⟨none, .store true 1 (.t 72) (.t 71), none⟩ ::
    []))
  (c22_3)
def c22_5 : HCode :=
  .region none (⟨some 34, .mv 0 (.t 13), none⟩ ::
    ⟨some 35, .bin .add (.t 34) (.c (.int .i64 1)), none⟩ ::
    ⟨some 13, .mv 0 (.t 35), none⟩ ::
    [])
def c22_6 : HCode :=
  .seq (.block 1 (.seq (.seq (.region (some [0, 0, 3, 7, 15, 31, 63, 63, 255, 511, 63, 63, 3135, 7231, 15423, 32767, 65535]) (⟨some 36, .mv 1 (.t 4), none⟩ ::
      ⟨some 37, .mv 0 (.t 13), none⟩ ::
      ⟨some 38, .iaddr 1 (.t 36) (.t 37), none⟩ ::
      ⟨some 39, .load false 1 (.t 38), none⟩ ::
      ⟨some 40, .bin .lss (.t 39) (.c (.int .i64 0)), none⟩ ::
      ⟨some 41, .mv 0 (.t 40), none⟩ ::
      ⟨some 42, .mv 1 (.t 4), some (5, false)⟩ ::
      ⟨some 43, .mv 0 (.t 13), some (5, false)⟩ ::
      ⟨some 44, .iaddr 1 (.t 42) (.t 43), some (5, false)⟩ ::
      ⟨some 45, .load false 1 (.t 44), some (5, false)⟩ ::
      ⟨some 46, .mv 3 (.t 1), some (5, false)⟩ ::
      ⟨some 47, .mv 0 (.t 13), some (5, false)⟩ ::
      ⟨some 48, .iaddr 3 (.t 46) (.t 47), some (5, false)⟩ ::
      ⟨some 49, .faddr 2 (.t 48), some (5, false)⟩ ::
      ⟨some 50, .load false 1 (.t 49), some (5, false)⟩ ::
      ⟨some 51, .bin .gtr (.t 45) (.t 50), some (5, false)⟩ ::
      ⟨some 52, .pick (.t 41) (.c (.bool true)) (.t 51), none⟩ ::
      []))
    (.cond (.t 52) (c22_2) (.skip)))
    (c22_4)))
  (c22_5)
def c22_7 : HCode :=
  .seq (.seq (.region none (⟨some 30, .mv 0 (.t 13), none⟩ ::
    ⟨some 31, .mv 3 (.t 1), none⟩ ::
    ⟨some 32, .len (.t 31), none⟩ ::
    ⟨some 33, .bin .lss (.t 30) (.t 32), none⟩ ::
    []))
  (.cond (.t 33) (.skip) (.exit 0)))
  (c22_6)
def c22_8 : HCode :=
  .seq (.region none (⟨some 10, .mv 0 (.c (.int .i64 0)), none⟩ ::
    ⟨some 11, .mv 0 (.c (.int .i64 24)), none⟩ ::
    []))
  (.ret)
def c22_9 : HCode :=
  .region none (⟨some 96, .mv 0 (.t 14), none⟩ ::
    ⟨some 97, .bin .add (.t 96) (.c (.int .i64 1)), none⟩ ::
    ⟨some 14, .mv 0 (.t 97), none⟩ ::
    [])
def c22_10 : HCode :=
  .seq (.block 3 (.seq (.region none (⟨some 98, .mv 0 (.t 14), none⟩ ::
      ⟨some 99, .mv 0 (.t 2), none⟩ ::
      ⟨some 100, .bin .neq (.t 98) (.t 99), none⟩ ::
      ⟨some 101, .mv 0 (.t 100), none⟩ ::
      ⟨some 102, .mv 0 (.t 14), some (3, true)⟩ ::
      ⟨some 103, .mv 0 (.t 3), some (3, true)⟩ ::
      ⟨some 104, .bin .neq (.t 102) (.t 103), some (3, true)⟩ ::
      ⟨some 105, .pick (.t 101) (.t 104) (.c (.bool false)), none⟩ ::
      ⟨some 106, .mv 0 (.t 105), none⟩ ::
      ⟨some 107, .mv 1 (.t 12), some (8, true)⟩ ::
      ⟨some 108, .mv 0 (.t 14), some (8, true)⟩ ::
      ⟨some 109, .iaddr 1 (.t 107) (.t 108), some (8, true)⟩ ::
      ⟨some 110, .load false 1 (.t 109), some (8, true)⟩ ::
      ⟨some 111, .bin .neq (.t 110) (.c (.int .i64 0)), some (8, true)⟩ ::
      ⟨some 112, .pick (.t 106) (.t 111) (.c (.bool false)), none⟩ ::
      []))
    (.cond (.t 112) (c22_8) (.skip))))
  (c22_9)
def c22_11 : HCode :=
  .seq (.seq (.region none (⟨some 93, .mv 0 (.t 14), none⟩ ::
    ⟨some 94, .mv 0 (.t 0), none⟩ ::
    ⟨some 95, .bin .lss (.t 93) (.t 94), none⟩ ::
    []))
  (.cond (.t 95) (.skip) (.exit 2)))
  (c22_10)
def c22_12 : HCode :=
  .seq (.region none (⟨some 113, .mv 1 (.t 12), none⟩ ::
    ⟨some 114, .mv 0 (.t 2), none⟩ ::
    ⟨some 115, .iaddr 1 (.t 113) (.t 114), none⟩ ::
    ⟨some 116, .load false 1 (.t 115), none⟩ ::
    ⟨some 10, .mv 0 (.t 116), none⟩ ::
    ⟨some 11, .mv 0 (.c (.int .i64 0)), none⟩ ::
    []))
  (.ret)
def c22_13 : HCode :=
  .seq (.seq (.region none (⟨some 14, .mv 0 (.c (.int .i64 0)), none⟩ ::
    []))
  (.block 2 (.loop (c22_11))))
  (c22_12)
def c22_14 : HCode :=
  .seq (.seq (.region none (⟨some 13, .mv 0 (.c (.int .i64 0)), none⟩ ::
    []))
  (.block 0 (.loop (c22_7))))
  (c22_13)
def c22_15 : HCode :=
  .seq (.region none (⟨some 28, .mv 0 (.t 0), none⟩ ::
    ⟨some 29, .mksl 1 8 [.int .i64 0] (.t 28), none⟩ ::
    ⟨some 12, .mv 1 (.t 29), none⟩ ::
    []))
  (c22_14)
def c22_16 : HCode :=
  .seq (.seq (.region none (⟨some 15, .mv 0 (.t 0), none⟩ ::
    ⟨some 16, .mv 3 (.t 1), none⟩ ::
    ⟨some 17, .mv 0 (.t 2), none⟩ ::
    ⟨some 18, .mv 0 (.t 3), none⟩ ::
    ⟨some 19, .call 17 [(.t 15), (.t 16), (.t 17), (.t 18)], none⟩ ::
    ⟨some 20, .un .not (.t 19), none⟩ ::
    ⟨some 21, .mv 0 (.t 20), none⟩ ::
    ⟨some 22, .mv 1 (.t 4), some (6, false)⟩ ::
    ⟨some 23, .len (.t 22), some (6, false)⟩ ::
    ⟨some 24, .mv 3 (.t 1), some (6, false)⟩ ::
    ⟨some 25, .len (.t 24), some (6, false)⟩ ::
    ⟨some 26, .bin .neq (.t 23) (.t 25), some (6, false)⟩ ::
    ⟨some 27, .pick (.t 21) (.c (.bool true)) (.t 26), none⟩ ::
    []))
  (.cond (.t 27) (c22_1) (.skip)))
  (c22_15)
def c22 : HCode :=
  .seq (.region none (⟨some 10, .mv 0 (.c (.int .i64 0)), none⟩ ::
    ⟨some 11, .mv 0 (.c (.int .i64 0)), none⟩ ::
    []))
  (c22_16)
theorem fc22 : funCode Try.prog 22 = some (c22, [10, 11], 117) := by kernel_rfl

def c23_1 : HCode :=
  .region none (⟨some 18, .mv 0 (.t 1), none⟩ ::
    ⟨some 19, .bin .quo (.t 18) (.c (.int .i64 2)), none⟩ ::
    ⟨some 1, .mv 0 (.t 19), none⟩ ::
    [])
def c23_2 : HCode :=
  .region none (⟨some 10, .mv 0 (.t 6), none⟩ ::
    ⟨some 11, .bin .add (.t 10) (.c (.int .i64 1)), none⟩ ::
    ⟨some 6, .mv 0 (.t 11), none⟩ ::
    [])
def c23_3 : HCode :=
  .seq (.block 1 (.seq (.region none (⟨some 12, .mv 1 (.t 5), none⟩ ::
      ⟨some 13, .mv 0 (.t 1), none⟩ ::
      ⟨some 14, .bin .rem (.t 13) (.c (.int .i64 2)), none⟩ ::
      ⟨some 15, .bin .eql (.t 14) (.c (.int .i64 1)), none⟩ ::
      ⟨some 16, .bsl 1 1 [(.t 15)], none⟩ ::
      ⟨some 17, .app true 1 1 (.t 12) (.t 16), none⟩ ::
      ⟨some 5, .mv 1 (.t 17), none⟩ ::
      []))
    (c23_1)))
  (c23_2)
def c23_4 : HCode :=
  .seq (.seq (.region none (⟨some 7, .mv 0 (.t 6), none⟩ ::
    ⟨some 8, .mv 0 (.t 0), none⟩ ::
    ⟨some 9, .bin .lss (.t 7) (.t 8), none⟩ ::
    []))
  (.cond (.t 9) (.skip) (.exit 0)))
  (c23_3)
def c23_5 : HCode :=
  .seq (.region none (⟨some 20, .mv 1 (.t 5), none⟩ ::
    ⟨some 4, .mv 1 (.t 20), none⟩ ::
    []))
  (.ret)
def c23_6 : HCode :=
  .seq (.seq (.region none (⟨some 6, .mv 0 (.c (.int .i64 0)), none⟩ ::
    []))
  (.block 0 (.loop (c23_4))))
  (c23_5)
def c23_7 : HCode :=
  .seq (.region none (⟨some 5, .mv 1 (.c (.nils)), none⟩ ::
    []))
  (c23_6)
def c23 : HCode :=
  .seq (.region none (⟨some 4, .mv 1 (.c (.nils)), none⟩ ::
    []))
  (c23_7)
theorem fc23 : funCode Try.prog 23 = some (c23, [4], 21) := by kernel_rfl

def c24_1 : HCode :=
  .seq (.region none (⟨some 6, .mv 0 (.c (.int .i64 0)), none⟩ ::
    []))
  (.ret)
def c24_2 : HCode :=
  .region none (⟨some 47, .mv 0 (.t 8), none⟩ ::
    ⟨some 48, .faddr 2 (.t 10), none⟩ ::
    ⟨some 49, .load false 1 (.t 48), none⟩ ::
    ⟨some 50, .bin .add (.t 47) (.t 49), none⟩ ::
    ⟨some 8, .mv 0 (.t 50), none⟩ ::
    [])
def c24_3 : HCode :=
  .seq (.region none (⟨some 22, .mv 0 (.t 7), none⟩ ::
    ⟨some 23, .faddr 0 (.t 10), none⟩ ::
    ⟨some 24, .load false 1 (.t 23), none⟩ ::
    ⟨some 25, .callv (.t 22) [(.t 24)], none⟩ ::
    ⟨some 26, .mv 0 (.t 25), none⟩ ::
    ⟨some 27, .mv 0 (.t 7), some (4, true)⟩ ::
    ⟨some 28, .faddr 1 (.t 10), some (4, true)⟩ ::
    ⟨some 29, .load false 1 (.t 28), some (4, true)⟩ ::
    ⟨some 30, .callv (.t 27) [(.t 29)], some (4, true)⟩ ::
    ⟨some 31, .pick (.t 26) (.t 30) (.c (.bool false)), none⟩ ::
    ⟨some 32, .mv 0 (.t 31), none⟩ ::
    ⟨some 33, .mv 1 (.t 2), some (10, true)⟩ ::
    ⟨some 34, .faddr 0 (.t 10), some (10, true)⟩ ::
    ⟨some 35, .load false 1 (.t 34), some (10, true)⟩ ::
    ⟨some 36, .iaddr 1 (.t 33) (.t 35), some (10, true)⟩ ::
    ⟨some 37, .load false 1 (.t 36), some (10, true)⟩ ::
    ⟨some 38, .pick (.t 32) (.t 37) (.c (.bool false)), none⟩ ::
    ⟨some 39, .mv 0 (.t 38), none⟩ ::
    ⟨some 40, .mv 1 (.t 2), some (17, true)⟩ ::
    ⟨some 41, .faddr 1 (.t 10), some (17, true)⟩ ::
    ⟨some 42, .load false 1 (.t 41), some (17, true)⟩ ::
    ⟨some 43, .iaddr 1 (.t 40) (.t 42), some (17, true)⟩ ::
    ⟨some 44, .load false 1 (.t 43), some (17, true)⟩ ::
    ⟨some 45, .un .not (.t 44), some (17, true)⟩ ::
    ⟨some 46, .pick (.t 39) (.t 45) (.c (.bool false)), none⟩ ::
    []))
  (.cond (.t 46) (c24_2) (.skip))
def c24_4 : HCode :=
  .region none (⟨some 51, .bin .add (.t 18) (.c (.int .i64 1)), none⟩ ::
    ⟨some 18, .mv 0 (.t 51), none⟩ ::
    [])
def c24_5 : HCode :=
  .seq (.block 1 (.seq (.region none (⟨some 20, .iaddr 3 (.t 16) (.t 18), none⟩ ::
      ⟨some 21, .load true 3 (.t 20), none⟩ ::
      ⟨some 10, .newz [.int .i64 0, .int .i64 0, .int .i64 0], none⟩ ::
      ⟨none, .store true 3 (.t 10) (.t 21), none⟩ ::
      []))
    (c24_3)))
  (c24_4)
def c24_6 : HCode :=
  .seq (.region none (⟨some 19, .bin .lss (.t 18) (.t 17), none⟩ ::
    []))
  (.seq (.cond (.t 19) (.skip) (.exit 0))
  (c24_5))
def c24_7 : HCode :=
  .seq (.region none (⟨some 52, .mv 0 (.t 8), none⟩ ::
    ⟨some 6, .mv 0 (.t 52), none⟩ ::
    []))
  (.ret)
def c24_8 : HCode :=
  .seq (.seq (.region none (⟨some 16, .mv 3 (.t 1), none⟩ ::
    ⟨some 17, .len (.t 16), none⟩ ::
    ⟨some 18, .mv 0 (.c (.int .i64 0)), none⟩ ::
    []))
  (.block 0 (.loop (c24_6))))
  (c24_7)
def c24_9 : HCode :=
  .seq (.region none (⟨some 8, .mv 0 (.c (.int .i64 0)), none⟩ ::
    []))
  (c24_8)
def c24_10 : HCode :=
  .seq (.region none (⟨some 15, .mkfn 35 [(.t 3)], none⟩ ::
    ⟨some 7, .mv 0 (.t 15), none⟩ ::
    []))
  (c24_9)
def c24_11 : HCode :=
  .seq (.seq (.region none (⟨some 11, .mv 1 (.t 2), none⟩ ::
    ⟨some 12, .len (.t 11), none⟩ ::
    ⟨some 13, .load false 1 (.t 3), none⟩ ::
    ⟨some 14, .bin .neq (.t 12) (.t 13), none⟩ ::
    []))
  (.cond (.t 14) (c24_1) (.skip)))
  (c24_10)
def c24 : HCode :=
  .seq (.region none (⟨some 3, .newv 1 (.t 0), none⟩ ::
    ⟨some 6, .mv 0 (.c (.int .i64 0)), none⟩ ::
    []))
  (c24_11)
theorem fc24 : funCode Try.prog 24 = some (c24, [6], 53) := by kernel_rfl

def c25_1 : HCode :=
  .seq (.region none (⟨some 6, .mv 0 (.c (.int .i64 0)), none⟩ ::
    []))
  (.ret)
def c25_2 : HCode :=
  .region none (⟨some 59, .mv 0 (.t 7), none⟩ ::
    ⟨some 60, .faddr 2 (.t 9), none⟩ ::
    ⟨some 61, .load false 1 (.t 60), none⟩ ::
    ⟨some 62, .bin .add (.t 59) (.t 61), none⟩ ::
    ⟨some 7, .mv 0 (.t 62), none⟩ ::
    [])
def c25_3 : HCode :=
  .seq (.region none (⟨some 24, .faddr 0 (.t 9), none⟩ ::
    ⟨some 25, .load false 1 (.t 24), none⟩ ::
    ⟨some 26, .bin .geq (.t 25) (.c (.int .i64 0)), none⟩ ::
    ⟨some 27, .mv 0 (.t 26), none⟩ ::
    ⟨some 28, .faddr 0 (.t 9), some (3, true)⟩ ::
    ⟨some 29, .load false 1 (.t 28), some (3, true)⟩ ::
    ⟨some 30, .mv 0 (.t 0), some (3, true)⟩ ::
    ⟨some 31, .bin .lss (.t 29) (.t 30), some (3, true)⟩ ::
    ⟨some 32, .pick (.t 27) (.t 31) (.c (.bool false)), none⟩ ::
    ⟨some 33, .mv 0 (.t 32), none⟩ ::
    ⟨some 34, .faddr 1 (.t 9), some (9, true)⟩ ::
    ⟨some 35, .load false 1 (.t 34), some (9, true)⟩ ::
    ⟨some 36, .bin .geq (.t 35) (.c (.int .i64 0)), some (9, true)⟩ ::
    ⟨some 37, .pick (.t 33) (.t 36) (.c (.bool false)), none⟩ ::
    ⟨some 38, .mv 0 (.t 37), none⟩ ::
    ⟨some 39, .faddr 1 (.t 9), some (14, true)⟩ ::
    ⟨some 40, .load false 1 (.t 39), some (14, true)⟩ ::
    ⟨some 41, .mv 0 (.t 0), some (14, true)⟩ ::
    ⟨some 42, .bin .lss (.t 40) (.t 41), some (14, true)⟩ ::
    ⟨some 43, .pick (.t 38) (.t 42) (.c (.bool false)), none⟩ ::
    ⟨some 44, .mv 0 (.t 43), none⟩ ::
    ⟨some 45, .mv 1 (.t 2), some (20, true)⟩ ::
    ⟨some 46, .faddr 0 (.t 9), some (20, true)⟩ ::
    ⟨some 47, .load false 1 (.t 46), some (20, true)⟩ ::
    ⟨some 48, .iaddr 1 (.t 45) (.t 47), some (20, true)⟩ ::
    ⟨some 49, .load false 1 (.t 48), some (20, true)⟩ ::
    ⟨some 50, .pick (.t 44) (.t 49) (.c (.bool false)), none⟩ ::
    ⟨some 51, .mv 0 (.t 50), none⟩ ::
    ⟨some 52, .mv 1 (.t 2), some (27, true)⟩ ::
    ⟨some 53, .faddr 1 (.t 9), some (27, true)⟩ ::
    ⟨some 54, .load false 1 (.t 53), some (27, true)⟩ ::
    ⟨some 55, .iaddr 1 (.t 52) (.t 54), some (27, true)⟩ ::
    ⟨some 56, .load false 1 (.t 55), some (27, true)⟩ ::
    ⟨some 57, .un .not (.t 56), some (27, true)⟩ ::
    ⟨some 58, .pick (.t 51) (.t 57) (.c (.bool false)), none⟩ ::
    []))
  (.cond (.t 58) (c25_2) (.skip))
def c25_4 : HCode :=
  .region none (⟨some 18, .mv 0 (.t 8), none⟩ ::
    ⟨some 19, .bin .add (.t 18) (.c (.int .i64 1)), none⟩ ::
    ⟨some 8, .mv 0 (.t 19), none⟩ ::
    [])
def c25_5 : HCode :=
  .seq (.block 1 (.seq (.region none (⟨some 20, .mv 3 (.t 1), none⟩ ::
      ⟨some 21, .mv 0 (.t 8), none⟩ ::
      ⟨some 22, .iaddr 3 (.t 20) (.t 21), none⟩ ::
      ⟨some 23, .load true 3 (.t 22), none⟩ ::
      ⟨some 9, .newz [.int .i64 0, .int .i64 0, .int .i64 0], none⟩ ::
      ⟨none, .store true 3 (.t 9) (.t 23), none⟩ ::
      []))
    (c25_3)))
  (c25_4)
def c25_6 : HCode :=
  .seq (.seq (.region none (⟨some 14, .mv 0 (.t 8), none⟩ ::
    ⟨some 15, .mv 3 (.t 1), none⟩ ::
    ⟨some 16, .len (.t 15), none⟩ ::
    ⟨some 17, .bin .lss (.t 14) (.t 16), none⟩ ::
    []))
  (.cond (.t 17) (.skip) (.exit 0)))
  (c25_5)
def c25_7 : HCode :=
  .seq (.region none (⟨some 63, .mv 0 (.t 7), none⟩ ::
    ⟨some 6, .mv 0 (.t 63), none⟩ ::
    []))
  (.ret)
def c25_8 : HCode :=
  .seq (.seq (.region none (⟨some 8, .mv 0 (.c (.int .i64 0)), none⟩ ::
    []))
  (.block 0 (.loop (c25_6))))
  (c25_7)
def c25_9 : HCode :=
  .seq (.region none (⟨some 7, .mv 0 (.c (.int .i64 0)), none⟩ ::
    []))
  (c25_8)
def c25_10 : HCode :=
  .seq (.seq (.region none (⟨some 10, .mv 1 (.t 2), none⟩ ::
    ⟨some 11, .len (.t 10), none⟩ ::
    ⟨some 12, .mv 0 (.t 0), none⟩ ::
    ⟨some 13, .bin .neq (.t 11) (.t 12), none⟩ ::
    []))
  (.cond (.t 13) (c25_1) (.skip)))
  (c25_9)
def c25 : HCode :=
  .seq (.region none (⟨some 6, .mv 0 (.c (.int .i64 0)), none⟩ ::
    []))
  (c25_10)
theorem fc25 : funCode Try.prog 25 = some (c25, [6], 64) := by kernel_rfl

def c26_1 : HCode :=
  .region none (⟨some 55, .mv 3 (.t 12), none⟩ ::
    ⟨some 56, .mv 0 (.t 14), none⟩ ::
    ⟨some 57, .mv 0 (.t 15), none⟩ ::
    ⟨some 58, .mv 1 (.t 0), none⟩ ::
    ⟨some 59, .mv 0 (.t 13), none⟩ ::
    ⟨some 60, .bin .mul (.c (.int .i64 3)) (.t 59), none⟩ ::
    ⟨some 61, .bin .add (.t 60) (.c (.int .i64 4)), none⟩ ::
    ⟨some 62, .call 31 [(.t 58), (.t 61)], none⟩ ::
    ⟨some 63, .call 36 [(.t 62)], none⟩ ::
    ⟨some 64, .bld [.int .i64 0, .int .i64 0, .int .i64 0] [(0, 1, (.t 56)), (1, 1, (.t 57)), (2, 1, (.t 63))], none⟩ ::
    ⟨some 65, .bsl 3 1 [(.t 64)], none⟩ ::
    ⟨some 66, .app true 3 24 (.t 55) (.t 65), none⟩ ::
    ⟨some 12, .mv 3 (.t 66), none⟩ ::
    [])
def c26_2 : HCode :=
  .seq (.region none (⟨some 42, .mv 0 (.t 14), none⟩ ::
    ⟨some 43, .bin .add (.t 42) (.c (.int .i64 1)), none⟩ ::
    ⟨some 44, .mv 1 (.t 0), none⟩ ::
    ⟨some 45, .mv 0 (.t 13), none⟩ ::
    ⟨some 46, .bin .mul (.c (.int .i64 3)) (.t 45), none⟩ ::
    ⟨some 47, .bin .add (.t 46) (.c (.int .i64 3)), none⟩ ::
    ⟨some 48, .call 31 [(.t 44), (.t 47)], none⟩ ::
    ⟨some 49, .mv 0 (.t 1), none⟩ ::
    ⟨some 50, .bin .sub (.t 49) (.c (.int .i64 1)), none⟩ ::
    ⟨some 51, .call 20 [(.t 48), (.t 50)], none⟩ ::
    ⟨some 52, .bin .add (.t 43) (.t 51), none⟩ ::
    ⟨some 53, .mv 0 (.t 1), none⟩ ::
    ⟨some 54, .bin .rem (.t 52) (.t 53), none⟩ ::
    ⟨some 15, .mv 0 (.t 54), none⟩ ::
    []))
  (c26_1)
def c26_3 : HCode :=
  .region none (⟨some 33, .mv 0 (.t 13), none⟩ ::
    ⟨some 34, .bin .add (.t 33) (.c (.int .i64 1)), none⟩ ::
    ⟨some 13, .mv 0 (.t 34), none⟩ ::
    [])
def c26_4 : HCode :=
  .seq (.block 1 (.seq (.region none (⟨some 35, .mv 1 (.t 0), none⟩ ::
      ⟨some 36, .mv 0 (.t 13), none⟩ ::
      ⟨some 37, .bin .mul (.c (.int .i64 3)) (.t 36), none⟩ ::
      ⟨some 38, .bin .add (.t 37) (.c (.int .i64 2)), none⟩ ::
      ⟨some 39, .call 31 [(.t 35), (.t 38)], none⟩ ::
      ⟨some 40, .mv 0 (.t 1), none⟩ ::
      ⟨some 41, .call 20 [(.t 39), (.t 40)], none⟩ ::
      ⟨some 14, .mv 0 (.t 41), none⟩ ::
      []))
    (c26_2)))
  (c26_3)
def c26_5 : HCode :=
  .seq (.seq (.region none (⟨some 30, .mv 0 (.t 13), none⟩ ::
    ⟨some 31, .mv 0 (.t 2), none⟩ ::
    ⟨some 32, .bin .lss (.t 30) (.t 31), none⟩ ::
    []))
  (.cond (.t 32) (.skip) (.exit 0)))
  (c26_4)
def c26_6 : HCode :=
  .seq (.region none (⟨some 67, .mv 0 (.t 1), none⟩ ::
    ⟨some 68, .mv 3 (.t 12), none⟩ ::
    ⟨some 69, .mv 0 (.t 10), none⟩ ::
    ⟨some 70, .mv 0 (.t 11), none⟩ ::
    ⟨some 6, .mv 0 (.t 67), none⟩ ::
    ⟨some 7, .mv 3 (.t 68), none⟩ ::
    ⟨some 8, .mv 0 (.t 69), none⟩ ::
    ⟨some 9, .mv 0 (.t 70), none⟩ ::
    []))
  (.ret)
def c26_7 : HCode :=
  .seq (.seq (.region none (⟨some 13, .mv 0 (.c (.int .i64 0)), none⟩ ::
    []))
  (.block 0 (.loop (c26_5))))
  (c26_6)
def c26_8 : HCode :=
  .seq (.region none (⟨some 12, .mv 3 (.c (.nils)), none⟩ ::
    []))
  (c26_7)
def c26_9 : HCode :=
  .seq (.region none (⟨some 20, .mv 0 (.t 10), none⟩ ::
    ⟨some 21, .bin .add (.t 20) (.c (.int .i64 1)), none⟩ ::
    ⟨some 22, .mv 1 (.t 0), none⟩ ::
    ⟨some 23, .call 31 [(.t 22), (.c (.int .i64 1))], none⟩ ::
    ⟨some 24, .mv 0 (.t 1), none⟩ ::
    ⟨some 25, .bin .sub (.t 24) (.c (.int .i64 1)), none⟩ ::
    ⟨some 26, .call 20 [(.t 23), (.t 25)], none⟩ ::
    ⟨some 27, .bin .add (.t 21) (.t 26), none⟩ ::
    ⟨some 28, .mv 0 (.t 1), none⟩ ::
    ⟨some 29, .bin .rem (.t 27) (.t 28), none⟩ ::
    ⟨some 11, .mv 0 (.t 29), none⟩ ::
    []))
  (c26_8)
def c26_10 : HCode :=
  .seq (.region none (⟨some 16, .mv 1 (.t 0), none⟩ ::
    ⟨some 17, .call 31 [(.t 16), (.c (.int .i64 0))], none⟩ ::
    ⟨some 18, .mv 0 (.t 1), none⟩ ::
    ⟨some 19, .call 20 [(.t 17), (.t 18)], none⟩ ::
    ⟨some 10, .mv 0 (.t 19), none⟩ ::
    []))
  (c26_9)
def c26 : HCode :=
  .seq (.region none (⟨some 6, .mv 0 (.c (.int .i64 0)), none⟩ ::
    ⟨some 7, .mv 3 (.c (.nils)), none⟩ ::
    ⟨some 8, .mv 0 (.c (.int .i64 0)), none⟩ ::
    ⟨some 9, .mv 0 (.c (.int .i64 0)), none⟩ ::
    []))
  (c26_10)
theorem fc26 : funCode Try.prog 26 = some (c26, [6, 7, 8, 9], 71) := by kernel_rfl

def c27_1 : HCode :=
  .region none (⟨some 9, .mv 0 (.t 4), none⟩ ::
    ⟨some 10, .bin .add (.t 9) (.c (.int .i64 1)), none⟩ ::
    ⟨some 4, .mv 0 (.t 10), none⟩ ::
    [])
def c27_2 : HCode :=
  .seq (.block 1 (.region (some [0, 0, 0, 6, 14, 30, 0, 0, 192, 448, 960, 0, 0, 6144, 14336, 30720, 65534, 131070, 262143, 524287]) (⟨some 11, .mv 3 (.t 3), none⟩ ::
      ⟨some 12, .mv 3 (.t 0), none⟩ ::
      ⟨some 13, .mv 0 (.t 4), none⟩ ::
      ⟨some 14, .iaddr 3 (.t 12) (.t 13), none⟩ ::
      ⟨some 15, .faddr 1 (.t 14), none⟩ ::
      ⟨some 16, .load false 1 (.t 15), none⟩ ::
      ⟨some 17, .mv 3 (.t 0), none⟩ ::
      ⟨some 18, .mv 0 (.t 4), none⟩ ::
      ⟨some 19, .iaddr 3 (.t 17) (.t 18), none⟩ ::
      ⟨some 20, .faddr 0 (.t 19), none⟩ ::
      ⟨some 21, .load false 1 (.t 20), none⟩ ::
      ⟨some 22, .mv 3 (.t 0), none⟩ ::
      ⟨some 23, .mv 0 (.t 4), none⟩ ::
      ⟨some 24, .iaddr 3 (.t 22) (.t 23), none⟩ ::
      ⟨some 25, .faddr 2 (.t 24), none⟩ ::
      ⟨some 26, .load false 1 (.t 25), none⟩ ::
      ⟨some 27, .bld [.int .i64 0, .int .i64 0, .int .i64 0] [(0, 1, (.t 16)), (1, 1, (.t 21)), (2, 1, (.t 26))], none⟩ ::
      ⟨some 28, .bsl 3 1 [(.t 27)], none⟩ ::
      ⟨some 29, .app true 3 24 (.t 11) (.t 28), none⟩ ::
      ⟨some 3, .mv 3 (.t 29), none⟩ ::
      [])))
  (c27_1)
def c27_3 : HCode :=
  .seq (.seq (.region none (⟨some 5, .mv 0 (.t 4), none⟩ ::
    ⟨some 6, .mv 3 (.t 0), none⟩ ::
    ⟨some 7, .len (.t 6), none⟩ ::
    ⟨some 8, .bin .lss (.t 5) (.t 7), none⟩ ::
    []))
  (.cond (.t 8) (.skip) (.exit 0)))
  (c27_2)
def c27_4 : HCode :=
  .seq (.region none (⟨some 30, .mv 3 (.t 3), none⟩ ::
    ⟨some 2, .mv 3 (.t 30), none⟩ ::
    []))
  (.ret)
def c27_5 : HCode :=
  .seq (.seq (.region none (⟨some 4, .mv 0 (.c (.int .i64 0)), none⟩ ::
    []))
  (.block 0 (.loop (c27_3))))
  (c27_4)
def c27_6 : HCode :=
  .seq (.region none (⟨some 3, .mv 3 (.c (.nils)), none⟩ ::
    []))
  (c27_5)
def c27 : HCode :=
  .seq (.region none (⟨some 2, .mv 3 (.c (.nils)), none⟩ ::
    []))
  (c27_6)
theorem fc27 : funCode Try.prog 27 = some (c27, [2], 31) := by kernel_rfl

def c28_1 : HCode :=
  .region none (⟨some 6, .mv 0 (.c (.bool true)), none⟩ ::
    [])
def c28_2 : HCode :=
  .seq (.region none (⟨some 24, .mv 1 (.t 5), none⟩ ::
    ⟨some 25, .mv 0 (.t 1), none⟩ ::
    ⟨some 26, .bsl 1 1 [(.t 25)], none⟩ ::
    ⟨some 27, .app true 1 8 (.t 24) (.t 26), none⟩ ::
    ⟨some 5, .mv 1 (.t 27), none⟩ ::
    []))
  (c28_1)
def c28_3 : HCode :=
  .region none (⟨some 34, .mv 1 (.t 5), none⟩ ::
    ⟨some 35, .mv 1 (.t 0), none⟩ ::
    ⟨some 36, .mv 0 (.t 7), none⟩ ::
    ⟨some 37, .iaddr 1 (.t 35) (.t 36), none⟩ ::
    ⟨some 38, .load false 1 (.t 37), none⟩ ::
    ⟨some 39, .bsl 1 1 [(.t 38)], none⟩ ::
    ⟨some 40, .app true 1 8 (.t 34) (.t 39), none⟩ ::
    ⟨some 5, .mv 1 (.t 40), none⟩ ::
    [])
def c28_4 : HCode :=
  .seq (.region none (⟨some 28, .mv 1 (.t 0), none⟩ ::
    ⟨some 29, .mv 0 (.t 7), none⟩ ::
    ⟨some 30, .iaddr 1 (.t 28) (.t 29), none⟩ ::
    ⟨some 31, .load false 1 (.t 30), none⟩ ::
    ⟨some 32, .mv 0 (.t 1), none⟩ ::
    ⟨some 33, .bin .neq (.t 31) (.t 32), none⟩ ::
    []))
  (.cond (.t 33) (c28_3) (.skip))
def c28_5 : HCode :=
  .region none (⟨some 12, .mv 0 (.t 7), none⟩ ::
    ⟨some 13, .bin .add (.t 12) (.c (.int .i64 1)), none⟩ ::
    ⟨some 7, .mv 0 (.t 13), none⟩ ::
    [])
def c28_6 : HCode :=
  .seq (.block 1 (.seq (.seq (.region none (⟨some 14, .mv 0 (.t 6), none⟩ ::
      ⟨some 15, .un .not (.t 14), none⟩ ::
      ⟨some 16, .mv 0 (.t 15), none⟩ ::
      ⟨some 17, .mv 1 (.t 0), some (2, true)⟩ ::
      ⟨some 18, .mv 0 (.t 7), some (2, true)⟩ ::
      ⟨some 19, .iaddr 1 (.t 17) (.t 18), some (2, true)⟩ ::
      ⟨some 20, .load false 1 (.t 19), some (2, true)⟩ ::
      ⟨some 21, .mv 0 (.t 1), some (2, true)⟩ ::
      ⟨some 22, .bin .geq (.t 20) (.t 21), some (2, true)⟩ ::
      ⟨some 23, .pick (.t 16) (.t 22) (.c (.bool false)), none⟩ ::
      []))
    (.cond (.t 23) (c28_2) (.skip)))
    (c28_4)))
  (c28_5)
def c28_7 : HCode :=
  .seq (.seq (.region none (⟨some 8, .mv 0 (.t 7), none⟩ ::
    ⟨some 9, .mv 1 (.t 0), none⟩ ::
    ⟨some 10, .len (.t 9), none⟩ ::
    ⟨some 11, .bin .lss (.t 8) (.t 10), none⟩ ::
    []))
  (.cond (.t 11) (.skip) (.exit 0)))
  (c28_6)
def c28_8 : HCode :=
  .region none (⟨some 43, .mv 1 (.t 5), none⟩ ::
    ⟨some 44, .mv 0 (.t 1), none⟩ ::
    ⟨some 45, .bsl 1 1 [(.t 44)], none⟩ ::
    ⟨some 46, .app true 1 8 (.t 43) (.t 45), none⟩ ::
    ⟨some 5, .mv 1 (.t 46), none⟩ ::
    [])
def c28_9 : HCode :=
  .seq (.region none (⟨some 47, .mv 1 (.t 5), none⟩ ::
    ⟨some 4, .mv 1 (.t 47), none⟩ ::
    []))
  (.ret)
def c28_10 : HCode :=
  .seq (.seq (.region none (⟨some 41, .mv 0 (.t 6), none⟩ ::
    ⟨some 42, .un .not (.t 41), none⟩ ::
    []))
  (.cond (.t 42) (c28_8) (.skip)))
  (c28_9)
def c28_11 : HCode :=
  .seq (.seq (.region none (⟨some 7, .mv 0 (.c (.int .i64 0)), none⟩ ::
    []))
  (.block 0 (.loop (c28_7))))
  (c28_10)
def c28_12 : HCode :=
  .seq (.region none (⟨some 6, .mv 0 (.c (.bool false)), none⟩ ::
    []))
  (c28_11)
def c28_13 : HCode :=
  .seq (.region none (⟨some 5, .mv 1 (.c (.nils)), none⟩ ::
    []))
  (c28_12)
def c28 : HCode :=
  .seq (.region none (⟨some 4, .mv 1 (.c (.nils)), none⟩ ::
    []))
  (c28_13)
theorem fc28 : funCode Try.prog 28 = some (c28, [4], 48) := by kernel_rfl

def c29_1 : HCode :=
  .seq (.region none (⟨some 4, .mv 1 (.c (.nils)), none⟩ ::
    []))
  (.ret)
def c29_2 : HCode :=
  .region none (⟨some 53, .mv 1 (.t 7), none⟩ ::
    ⟨some 54, .mv 0 (.t 12), none⟩ ::
    ⟨some 55, .mv 1 (.t 7), none⟩ ::
    ⟨some 56, .mv 0 (.t 12), none⟩ ::
    ⟨some 57, .iaddr 1 (.t 55) (.t 56), none⟩ ::
    ⟨some 58, .load false 1 (.t 57), none⟩ ::
    ⟨some 59, .mv 0 (.t 9), none⟩ ::
    ⟨some 60, .bsl 1 1 [(.t 59)], none⟩ ::
    ⟨some 61, .app true 1 8 (.t 58) (.t 60), none⟩ ::
    ⟨some 62, .iaddr 1 (.t 53) (.t 54), none⟩ ::
    ⟨none, .store false 1 (.t 62) (.t 61), none⟩ ::
    [])
def c29_3 : HCode :=
  .region none (⟨some 63, .bin .add (.t 49) (.c (.int .i64 1)), none⟩ ::
    ⟨some 49, .mv 0 (.t 63), none⟩ ::
    [])
def c29_4 : HCode :=
  .seq (.block 3 (.seq (.region none (⟨some 51, .iaddr 1 (.t 47) (.t 49), none⟩ ::
      ⟨some 52, .load false 1 (.t 51), none⟩ ::
      ⟨some 12, .mv 0 (.t 52), none⟩ ::
      []))
    (c29_2)))
  (c29_3)
def c29_5 : HCode :=
  .seq (.region none (⟨some 50, .bin .lss (.t 49) (.t 48), none⟩ ::
    []))
  (.seq (.cond (.t 50) (.skip) (.exit 2))
  (c29_4))
def c29_6 : HCode :=
  .region none (⟨some 74, .mv 1 (.t 8), none⟩ ::
    ⟨some 75, .mv 0 (.t 9), none⟩ ::
    ⟨some 76, .bsl 1 1 [(.t 75)], none⟩ ::
    ⟨some 77, .app true 1 8 (.t 74) (.t 76), none⟩ ::
    ⟨some 8, .mv 1 (.t 77), none⟩ ::
    [])
def c29_7 : HCode :=
  .seq (.region none (⟨some 64, .mv 1 (.t 10), none⟩ ::
    ⟨some 65, .len (.t 64), none⟩ ::
    ⟨some 66, .bin .eql (.t 65) (.c (.int .i64 0)), none⟩ ::
    ⟨some 67, .mv 0 (.t 66), none⟩ ::
    ⟨some 68, .mv 1 (.t 1), some (3, true)⟩ ::
    ⟨some 69, .mv 0 (.t 9), some (3, true)⟩ ::
    ⟨some 70, .iaddr 1 (.t 68) (.t 69), some (3, true)⟩ ::
    ⟨some 71, .load false 1 (.t 70), some (3, true)⟩ ::
    ⟨some 72, .un .not (.t 71), some (3, true)⟩ ::
    ⟨some 73, .pick (.t 67) (.t 72) (.c (.bool false)), none⟩ ::
    []))
  (.cond (.t 73) (c29_6) (.skip))
def c29_8 : HCode :=
  .seq (.seq (.region none (⟨some 47, .mv 1 (.t 10), none⟩ ::
    ⟨some 48, .len (.t 47), none⟩ ::
    ⟨some 49, .mv 0 (.c (.int .i64 0)), none⟩ ::
    []))
  (.block 2 (.loop (c29_5))))
  (c29_7)
def c29_9 : HCode :=
  .seq (.region none (⟨some 42, .mv 1 (.t 6), none⟩ ::
    ⟨some 43, .mv 0 (.t 9), none⟩ ::
    ⟨some 44, .mv 1 (.t 10), none⟩ ::
    ⟨some 45, .len (.t 44), none⟩ ::
    ⟨some 46, .iaddr 1 (.t 42) (.t 43), none⟩ ::
    ⟨none, .store true 1 (.t 46) (.t 45), none⟩ ::
    []))
  (c29_8)
def c29_10 : HCode :=
  .seq (.region none (⟨some 39, .mv 1 (.t 5), none⟩ ::
    ⟨some 40, .mv 0 (.t 9), none⟩ ::
    ⟨some 41, .iaddr 1 (.t 39) (.t 40), none⟩ ::
    ⟨none, .store true 1 (.t 41) (.c (.int .i64 (-1))), none⟩ ::
    []))
  (c29_9)
def c29_11 : HCode :=
  .region none (⟨some 78, .bin .add (.t 34) (.c (.int .i64 1)), none⟩ ::
    ⟨some 34, .mv 0 (.t 78), none⟩ ::
    [])
def c29_12 : HCode :=
  .seq (.block 1 (.seq (.region none (⟨some 36, .mv 0 (.t 34), none⟩ ::
      ⟨some 37, .iaddr 1 (.t 32) (.t 34), none⟩ ::
      ⟨some 38, .load false 1 (.t 37), none⟩ ::
      ⟨some 9, .mv 0 (.t 36), none⟩ ::
      ⟨some 10, .mv 1 (.t 38), none⟩ ::
      []))
    (c29_10)))
  (c29_11)
def c29_13 : HCode :=
  .seq (.region none (⟨some 35, .bin .lss (.t 34) (.t 33), none⟩ ::
    []))
  (.seq (.cond (.t 35) (.skip) (.exit 0))
  (c29_12))
def c29_14 : HCode :=
  .region none (⟨some 121, .mv 1 (.t 14), none⟩ ::
    ⟨some 122, .mv 0 (.t 18), none⟩ ::
    ⟨some 123, .bsl 1 1 [(.t 122)], none⟩ ::
    ⟨some 124, .app true 1 8 (.t 121) (.t 123), none⟩ ::
    ⟨some 14, .mv 1 (.t 124), none⟩ ::
    [])
def c29_15 : HCode :=
  .seq (.region none (⟨some 109, .mv 1 (.t 6), none⟩ ::
    ⟨some 110, .mv 0 (.t 18), none⟩ ::
    ⟨some 111, .iaddr 1 (.t 109) (.t 110), none⟩ ::
    ⟨some 112, .load false 1 (.t 111), none⟩ ::
    ⟨some 113, .bin .eql (.t 112) (.c (.int .i64 0)), none⟩ ::
    ⟨some 114, .mv 0 (.t 113), none⟩ ::
    ⟨some 115, .mv 1 (.t 1), some (5, true)⟩ ::
    ⟨some 116, .mv 0 (.t 18), some (5, true)⟩ ::
    ⟨some 117, .iaddr 1 (.t 115) (.t 116), some (5, true)⟩ ::
    ⟨some 118, .load false 1 (.t 117), some (5, true)⟩ ::
    ⟨some 119, .un .not (.t 118), some (5, true)⟩ ::
    ⟨some 120, .pick (.t 114) (.t 119) (.c (.bool false)), none⟩ ::
    []))
  (.cond (.t 120) (c29_14) (.skip))
def c29_16 : HCode :=
  .seq (.region none (⟨some 103, .mv 1 (.t 6), none⟩ ::
    ⟨some 104, .mv 0 (.t 18), none⟩ ::
    ⟨some 105, .iaddr 1 (.t 103) (.t 104), none⟩ ::
    ⟨some 106, .load false 1 (.t 105), none⟩ ::
    ⟨some 107, .bin .sub (.t 106) (.c (.int .i64 1)), none⟩ ::
    ⟨some 108, .iaddr 1 (.t 103) (.t 104), none⟩ ::
    ⟨none, .store true 1 (.t 108) (.t 107), none⟩ ::
    []))
  (c29_15)
def c29_17 : HCode :=
  .region none (⟨some 125, .bin .add (.t 99) (.c (.int .i64 1)), none⟩ ::
    ⟨some 99, .mv 0 (.t 125), none⟩ ::
    [])
def c29_18 : HCode :=
  .seq (.block 9 (.seq (.region none (⟨some 101, .iaddr 1 (.t 97) (.t 99), none⟩ ::
      ⟨some 102, .load false 1 (.t 101), none⟩ ::
      ⟨some 18, .mv 0 (.t 102), none⟩ ::
      []))
    (c29_16)))
  (c29_17)
def c29_19 : HCode :=
  .seq (.region none (⟨some 100, .bin .lss (.t 99) (.t 98), none⟩ ::
    []))
  (.seq (.cond (.t 100) (.skip) (.exit 8))
  (c29_18))
def c29_20 : HCode :=
  .seq (.region none (⟨some 94, .mv 1 (.t 7), none⟩ ::
    ⟨some 95, .mv 0 (.t 16), none⟩ ::
    ⟨some 96, .iaddr 1 (.t 94) (.t 95), none⟩ ::
    ⟨some 97, .load false 1 (.t 96), none⟩ ::
    ⟨some 98, .len (.t 97), none⟩ ::
    ⟨some 99, .mv 0 (.c (.int .i64 0)), none⟩ ::
    []))
  (.block 8 (.loop (c29_19)))
def c29_21 : HCode :=
  .seq (.region none (⟨some 90, .mv 1 (.t 5), none⟩ ::
    ⟨some 91, .mv 0 (.t 16), none⟩ ::
    ⟨some 92, .mv 0 (.t 13), none⟩ ::
    ⟨some 93, .iaddr 1 (.t 90) (.t 91), none⟩ ::
    ⟨none, .store true 1 (.t 93) (.t 92), none⟩ ::
    []))
  (c29_20)
def c29_22 : HCode :=
  .region none (⟨some 126, .bin .add (.t 86) (.c (.int .i64 1)), none⟩ ::
    ⟨some 86, .mv 0 (.t 126), none⟩ ::
    [])
def c29_23 : HCode :=
  .seq (.block 7 (.seq (.region none (⟨some 88, .iaddr 1 (.t 84) (.t 86), none⟩ ::
      ⟨some 89, .load false 1 (.t 88), none⟩ ::
      ⟨some 16, .mv 0 (.t 89), none⟩ ::
      []))
    (c29_21)))
  (c29_22)
def c29_24 : HCode :=
  .seq (.region none (⟨some 87, .bin .lss (.t 86) (.t 85), none⟩ ::
    []))
  (.seq (.cond (.t 87) (.skip) (.exit 6))
  (c29_23))
def c29_25 : HCode :=
  .region none (⟨some 127, .mv 1 (.t 14), none⟩ ::
    ⟨some 8, .mv 1 (.t 127), none⟩ ::
    [])
def c29_26 : HCode :=
  .seq (.seq (.region none (⟨some 84, .mv 1 (.t 8), none⟩ ::
    ⟨some 85, .len (.t 84), none⟩ ::
    ⟨some 86, .mv 0 (.c (.int .i64 0)), none⟩ ::
    []))
  (.block 6 (.loop (c29_24))))
  (c29_25)
def c29_27 : HCode :=
  .region none (⟨some 82, .mv 0 (.t 13), none⟩ ::
    ⟨some 83, .bin .add (.t 82) (.c (.int .i64 1)), none⟩ ::
    ⟨some 13, .mv 0 (.t 83), none⟩ ::
    [])
def c29_28 : HCode :=
  .seq (.block 5 (.seq (.region none (⟨some 14, .mv 1 (.c (.nils)), none⟩ ::
      []))
    (c29_26)))
  (c29_27)
def c29_29 : HCode :=
  .seq (.seq (.region none (⟨some 79, .mv 1 (.t 8), none⟩ ::
    ⟨some 80, .len (.t 79), none⟩ ::
    ⟨some 81, .bin .gtr (.t 80) (.c (.int .i64 0)), none⟩ ::
    []))
  (.cond (.t 81) (.skip) (.exit 4)))
  (c29_28)
def c29_30 : HCode :=
  .seq (.region none (⟨some 128, .mv 1 (.t 5), none⟩ ::
    ⟨some 4, .mv 1 (.t 128), none⟩ ::
    []))
  (.ret)
def c29_31 : HCode :=
  .seq (.seq (.region none (⟨some 13, .mv 0 (.c (.int .i64 0)), none⟩ ::
    []))
  (.block 4 (.loop (c29_29))))
  (c29_30)
def c29_32 : HCode :=
  .seq (.seq (.region none (⟨some 32, .mv 1 (.t 0), none⟩ ::
    ⟨some 33, .len (.t 32), none⟩ ::
    ⟨some 34, .mv 0 (.c (.int .i64 0)), none⟩ ::
    []))
  (.block 0 (.loop (c29_13))))
  (c29_31)
def c29_33 : HCode :=
  .seq (.region none (⟨some 8, .mv 1 (.c (.nils)), none⟩ ::
    []))
  (c29_32)
def c29_34 : HCode :=
  .seq (.region none (⟨some 29, .mv 1 (.t 0), none⟩ ::
    ⟨some 30, .len (.t 29), none⟩ ::
    ⟨some 31, .mksl 1 24 [.osl 1 0 []] (.t 30), none⟩ ::
    ⟨some 7, .mv 1 (.t 31), none⟩ ::
    []))
  (c29_33)
def c29_35 : HCode :=
  .seq (.region none (⟨some 26, .mv 1 (.t 0), none⟩ ::
    ⟨some 27, .len (.t 26), none⟩ ::
    ⟨some 28, .mksl 1 8 [.int .i64 0] (.t 27), none⟩ ::
    ⟨some 6, .mv 1 (.t 28), none⟩ ::
    []))
  (c29_34)
def c29_36 : HCode :=
  .seq (.region none (⟨some 23, .mv 1 (.t 0), none⟩ ::
    ⟨some 24, .len (.t 23), none⟩ ::
    ⟨some 25, .mksl 1 8 [.int .i64 0] (.t 24), none⟩ ::
    ⟨some 5, .mv 1 (.t 25), none⟩ ::
    []))
  (c29_35)
def c29_37 : HCode :=
  .seq (.seq (.region none (⟨some 19, .mv 1 (.t 0), none⟩ ::
    ⟨some 20, .mv 1 (.t 1), none⟩ ::
    ⟨some 21, .call 37 [(.t 19), (.t 20)], none⟩ ::
    ⟨some 22, .un .not (.t 21), none⟩ ::
    []))
  (.cond (.t 22) (c29_1) (.skip)))
  (c29_36)
def c29 : HCode :=
  .seq (.region none (⟨some 4, .mv 1 (.c (.nils)), none⟩ ::
    []))
  (c29_37)
theorem fc29 : funCode Try.prog 29 = some (c29, [4], 129) := by kernel_rfl

def c30_1 : HCode :=
  .seq (.region none (⟨some 6, .mv 1 (.c (.nils)), none⟩ ::
    []))
  (.ret)
def c30_2 : HCode :=
  .region none (⟨some 93, .mv 0 (.t 16), none⟩ ::
    ⟨some 94, .load false 1 (.t 8), none⟩ ::
    ⟨some 95, .mv 0 (.t 15), none⟩ ::
    ⟨some 96, .iaddr 1 (.t 94) (.t 95), none⟩ ::
    ⟨some 97, .load false 1 (.t 96), none⟩ ::
    ⟨some 98, .mv 0 (.t 18), none⟩ ::
    ⟨some 99, .iaddr 1 (.t 97) (.t 98), none⟩ ::
    ⟨some 100, .load false 1 (.t 99), none⟩ ::
    ⟨some 101, .mm false (.t 93) (.t 100), none⟩ ::
    ⟨some 16, .mv 0 (.t 101), none⟩ ::
    [])
def c30_3 : HCode :=
  .seq (.region none (⟨some 85, .load false 1 (.t 8), none⟩ ::
    ⟨some 86, .mv 0 (.t 15), none⟩ ::
    ⟨some 87, .iaddr 1 (.t 85) (.t 86), none⟩ ::
    ⟨some 88, .load false 1 (.t 87), none⟩ ::
    ⟨some 89, .mv 0 (.t 18), none⟩ ::
    ⟨some 90, .iaddr 1 (.t 88) (.t 89), none⟩ ::
    ⟨some 91, .load false 1 (.t 90), none⟩ ::
    ⟨some 92, .bin .geq (.t 91) (.c (.int .i64 0)), none⟩ ::
    []))
  (.cond (.t 92) (c30_2) (.skip))
def c30_4 : HCode :=
  .region none (⟨some 102, .bin .add (.t 81) (.c (.int .i64 1)), none⟩ ::
    ⟨some 81, .mv 0 (.t 102), none⟩ ::
    [])
def c30_5 : HCode :=
  .seq (.block 5 (.seq (.region none (⟨some 83, .iaddr 1 (.t 79) (.t 81), none⟩ ::
      ⟨some 84, .load false 1 (.t 83), none⟩ ::
      ⟨some 18, .mv 0 (.t 84), none⟩ ::
      []))
    (c30_3)))
  (c30_4)
def c30_6 : HCode :=
  .seq (.region none (⟨some 82, .bin .lss (.t 81) (.t 80), none⟩ ::
    []))
  (.seq (.cond (.t 82) (.skip) (.exit 4))
  (c30_5))
def c30_7 : HCode :=
  .seq (.region none (⟨some 106, .mv 1 (.t 11), none⟩ ::
    ⟨some 107, .mv 0 (.t 15), none⟩ ::
    ⟨some 108, .bsl 1 1 [(.t 107)], none⟩ ::
    ⟨some 109, .app true 1 8 (.t 106) (.t 108), none⟩ ::
    ⟨some 11, .mv 1 (.t 109), none⟩ ::
    []))
  (.exit 2)
def c30_8 : HCode :=
  .seq (.region none (⟨some 103, .mv 0 (.t 16), none⟩ ::
    ⟨some 104, .mv 0 (.t 13), none⟩ ::
    ⟨some 105, .bin .eql (.t 103) (.t 104), none⟩ ::
    []))
  (.cond (.t 105) (c30_7) (.skip))
def c30_9 : HCode :=
  .seq (.seq (.region none (⟨some 79, .mv 1 (.t 11), none⟩ ::
    ⟨some 80, .len (.t 79), none⟩ ::
    ⟨some 81, .mv 0 (.c (.int .i64 0)), none⟩ ::
    []))
  (.block 4 (.loop (c30_6))))
  (c30_8)
def c30_10 : HCode :=
  .seq (.region none (⟨some 76, .mv 0 (.t 10), none⟩ ::
    ⟨some 77, .mv 0 (.t 15), none⟩ ::
    ⟨some 78, .callv (.t 76) [(.t 77)], none⟩ ::
    ⟨some 16, .mv 0 (.t 78), none⟩ ::
    []))
  (c30_9)
def c30_11 : HCode :=
  .seq (.seq (.region none (⟨some 71, .mv 1 (.t 7), none⟩ ::
    ⟨some 72, .mv 0 (.t 15), none⟩ ::
    ⟨some 73, .iaddr 1 (.t 71) (.t 72), none⟩ ::
    ⟨some 74, .load false 1 (.t 73), none⟩ ::
    ⟨some 75, .bin .geq (.t 74) (.c (.int .i64 0)), none⟩ ::
    []))
  (.cond (.t 75) (.exit 3) (.skip)))
  (c30_10)
def c30_12 : HCode :=
  .region none (⟨some 110, .bin .add (.t 67) (.c (.int .i64 1)), none⟩ ::
    ⟨some 67, .mv 0 (.t 110), none⟩ ::
    [])
def c30_13 : HCode :=
  .seq (.block 3 (.seq (.region none (⟨some 69, .iaddr 1 (.t 65) (.t 67), none⟩ ::
      ⟨some 70, .load false 1 (.t 69), none⟩ ::
      ⟨some 15, .mv 0 (.t 70), none⟩ ::
      []))
    (c30_11)))
  (c30_12)
def c30_14 : HCode :=
  .seq (.region none (⟨some 68, .bin .lss (.t 67) (.t 66), none⟩ ::
    []))
  (.seq (.cond (.t 68) (.skip) (.exit 2))
  (c30_13))
def c30_15 : HCode :=
  .seq (.region (some [0, 0, 0, 4, 12, 30, 62, 127, 255, 511, 0]) (⟨some 57, .load false 1 (.t 3), none⟩ ::
    ⟨some 58, .mv 1 (.t 11), none⟩ ::
    ⟨some 59, .mv 1 (.t 11), none⟩ ::
    ⟨some 60, .len (.t 59), none⟩ ::
    ⟨some 61, .bin .sub (.t 60) (.c (.int .i64 1)), none⟩ ::
    ⟨some 62, .iaddr 1 (.t 58) (.t 61), none⟩ ::
    ⟨some 63, .load false 1 (.t 62), none⟩ ::
    ⟨some 64, .iaddr 1 (.t 57) (.t 63), none⟩ ::
    ⟨some 65, .load false 1 (.t 64), none⟩ ::
    ⟨some 66, .len (.t 65), none⟩ ::
    ⟨some 67, .mv 0 (.c (.int .i64 0)), none⟩ ::
    []))
  (.block 2 (.loop (c30_14)))
def c30_16 : HCode :=
  .block 1 (.seq (.region none (⟨some 53, .mv 0 (.t 12), none⟩ ::
      ⟨some 54, .mv 1 (.t 11), none⟩ ::
      ⟨some 55, .len (.t 54), none⟩ ::
      ⟨some 56, .bin .sub (.t 53) (.t 55), none⟩ ::
      ⟨some 13, .mv 0 (.t 56), none⟩ ::
      []))
    (c30_15))
def c30_17 : HCode :=
  .seq (.seq (.region none (⟨some 49, .mv 1 (.t 11), none⟩ ::
    ⟨some 50, .len (.t 49), none⟩ ::
    ⟨some 51, .mv 0 (.t 12), none⟩ ::
    ⟨some 52, .bin .leq (.t 50) (.t 51), none⟩ ::
    []))
  (.cond (.t 52) (.skip) (.exit 0)))
  (c30_16)
def c30_18 : HCode :=
  .seq (.region none (⟨some 111, .mv 1 (.t 11), none⟩ ::
    ⟨some 6, .mv 1 (.t 111), none⟩ ::
    []))
  (.ret)
def c30_19 : HCode :=
  .seq (.region none (⟨some 46, .mv 0 (.t 10), none⟩ ::
    ⟨some 47, .mv 0 (.t 2), none⟩ ::
    ⟨some 48, .callv (.t 46) [(.t 47)], none⟩ ::
    ⟨some 12, .mv 0 (.t 48), none⟩ ::
    []))
  (.seq (.block 0 (.loop (c30_17)))
  (c30_18))
def c30_20 : HCode :=
  .seq (.region none (⟨some 44, .mv 0 (.t 2), none⟩ ::
    ⟨some 45, .bsl 1 1 [(.t 44)], none⟩ ::
    ⟨some 11, .mv 1 (.t 45), none⟩ ::
    []))
  (c30_19)
def c30_21 : HCode :=
  .seq (.region none (⟨some 43, .mkfn 39 [(.t 3), (.t 8), (.t 4), (.t 9)], none⟩ ::
    ⟨some 10, .mv 0 (.t 43), none⟩ ::
    []))
  (c30_20)
def c30_22 : HCode :=
  .seq (.region none (⟨some 38, .load false 1 (.t 3), none⟩ ::
    ⟨some 39, .load false 1 (.t 4), none⟩ ::
    ⟨some 40, .call 38 [(.t 38), (.t 39)], none⟩ ::
    ⟨some 37, .mv 0 (.t 40), none⟩ ::
    ⟨some 41, .ext (.t 37) 0, none⟩ ::
    ⟨some 42, .ext (.t 37) 1, none⟩ ::
    ⟨some 8, .newz [.nils], none⟩ ::
    ⟨some 9, .newz [.nils], none⟩ ::
    ⟨none, .store false 1 (.t 8) (.t 41), none⟩ ::
    ⟨none, .store false 1 (.t 9) (.t 42), none⟩ ::
    []))
  (c30_21)
def c30_23 : HCode :=
  .seq (.seq (.region none (⟨some 22, .mv 0 (.t 2), none⟩ ::
    ⟨some 23, .bin .lss (.t 22) (.c (.int .i64 0)), none⟩ ::
    ⟨some 24, .mv 0 (.t 23), none⟩ ::
    ⟨some 25, .mv 0 (.t 2), some (2, false)⟩ ::
    ⟨some 26, .mv 1 (.t 7), some (2, false)⟩ ::
    ⟨some 27, .len (.t 26), some (2, false)⟩ ::
    ⟨some 28, .bin .geq (.t 25) (.t 27), some (2, false)⟩ ::
    ⟨some 29, .pick (.t 24) (.c (.bool true)) (.t 28), none⟩ ::
    ⟨some 30, .mv 0 (.t 29), none⟩ ::
    ⟨some 31, .mv 1 (.t 7), some (8, false)⟩ ::
    ⟨some 32, .mv 0 (.t 2), some (8, false)⟩ ::
    ⟨some 33, .iaddr 1 (.t 31) (.t 32), some (8, false)⟩ ::
    ⟨some 34, .load false 1 (.t 33), some (8, false)⟩ ::
    ⟨some 35, .bin .geq (.t 34) (.c (.int .i64 0)), some (8, false)⟩ ::
    ⟨some 36, .pick (.t 30) (.c (.bool true)) (.t 35), none⟩ ::
    []))
  (.cond (.t 36) (c30_1) (.skip)))
  (c30_22)
def c30_24 : HCode :=
  .seq (.region none (⟨some 19, .load false 1 (.t 3), none⟩ ::
    ⟨some 20, .load false 1 (.t 4), none⟩ ::
    ⟨some 21, .call 29 [(.t 19), (.t 20)], none⟩ ::
    ⟨some 7, .mv 1 (.t 21), none⟩ ::
    []))
  (c30_23)
def c30 : HCode :=
  .seq (.region none (⟨some 3, .newv 1 (.t 0), none⟩ ::
    ⟨some 4, .newv 1 (.t 1), none⟩ ::
    ⟨some 6, .mv 1 (.c (.nils)), none⟩ ::
    []))
  (c30_24)
theorem fc30 : funCode Try.prog 30 = some (c30, [6], 112) := by kernel_rfl

def c31_1 : HCode :=
  .seq (.region none (⟨some 4, .mv 0 (.c (.int .i64 0)), none⟩ ::
    []))
  (.ret)
def c31_2 : HCode :=
  .seq (.region (some [0, 0, 0, 4, 14, 31, 63, 127, 0, 0, 512, 1792, 3840, 8191, 16383]) (⟨some 8, .mv 1 (.t 0), none⟩ ::
    ⟨some 9, .mv 0 (.t 1), none⟩ ::
    ⟨some 10, .mv 1 (.t 0), none⟩ ::
    ⟨some 11, .len (.t 10), none⟩ ::
    ⟨some 12, .bin .rem (.t 9) (.t 11), none⟩ ::
    ⟨some 13, .iaddr 1 (.t 8) (.t 12), none⟩ ::
    ⟨some 14, .load false 1 (.t 13), none⟩ ::
    ⟨some 15, .bin .rem (.t 14) (.c (.int .i64 1048576)), none⟩ ::
    ⟨some 16, .mv 0 (.t 1), none⟩ ::
    ⟨some 17, .mv 1 (.t 0), none⟩ ::
    ⟨some 18, .len (.t 17), none⟩ ::
    ⟨some 19, .bin .quo (.t 16) (.t 18), none⟩ ::
    ⟨some 20, .bin .mul (.c (.int .i64 11)) (.t 19), none⟩ ::
    ⟨some 21, .bin .add (.t 15) (.t 20), none⟩ ::
    ⟨some 4, .mv 0 (.t 21), none⟩ ::
    []))
  (.ret)
def c31_3 : HCode :=
  .seq (.seq (.region none (⟨some 5, .mv 1 (.t 0), none⟩ ::
    ⟨some 6, .len (.t 5), none⟩ ::
    ⟨some 7, .bin .eql (.t 6) (.c (.int .i64 0)), none⟩ ::
    []))
  (.cond (.t 7) (c31_1) (.skip)))
  (c31_2)
def c31 : HCode :=
  .seq (.region none (⟨some 4, .mv 0 (.c (.int .i64 0)), none⟩ ::
    []))
  (c31_3)
theorem fc31 : funCode Try.prog 31 = some (c31, [4], 22) := by kernel_rfl

def c32_1 : HCode :=
  .region (some [0, 1, 3, 0, 15]) (⟨some 34, .mv 0 (.t 10), none⟩ ::
    ⟨some 35, .nilck (.t 34), none⟩ ::
    ⟨some 36, .faddr 0 (.t 35), none⟩ ::
    ⟨some 37, .load true 3 (.t 12), none⟩ ::
    ⟨some 38, .call 40 [(.t 36), (.t 37)], none⟩ ::
    [])
def c32_2 : HCode :=
  .region none (⟨some 39, .bin .add (.t 30) (.c (.int .i64 1)), none⟩ ::
    ⟨some 30, .mv 0 (.t 39), none⟩ ::
    [])
def c32_3 : HCode :=
  .seq (.block 1 (.seq (.region none (⟨some 32, .iaddr 3 (.t 28) (.t 30), none⟩ ::
      ⟨some 33, .load true 3 (.t 32), none⟩ ::
      ⟨some 12, .newz [.int .i64 0, .int .i64 0, .int .i64 0], none⟩ ::
      ⟨none, .store true 3 (.t 12) (.t 33), none⟩ ::
      []))
    (c32_1)))
  (c32_2)
def c32_4 : HCode :=
  .seq (.region none (⟨some 31, .bin .lss (.t 30) (.t 29), none⟩ ::
    []))
  (.seq (.cond (.t 31) (.skip) (.exit 0))
  (c32_3))
def c32_5 : HCode :=
  .block 3 (.region none (⟨some 42, .mv 0 (.t 13), none⟩ ::
      ⟨some 43, .mv 0 (.t 10), none⟩ ::
      ⟨some 44, .mv 0 (.t 2), none⟩ ::
      ⟨some 45, .call 42 [(.t 43), (.t 44), (.c (.int .i64 1152921504606846976))], none⟩ ::
      ⟨some 46, .bin .add (.t 42) (.t 45), none⟩ ::
      ⟨some 13, .mv 0 (.t 46), none⟩ ::
      []))
def c32_6 : HCode :=
  .seq (.seq (.region none (⟨some 40, .mv 0 (.t 10), none⟩ ::
    ⟨some 41, .call 41 [(.t 40)], none⟩ ::
    []))
  (.cond (.t 41) (.skip) (.exit 2)))
  (c32_5)
def c32_7 : HCode :=
  .seq (.region none (⟨some 47, .mv 0 (.t 10), none⟩ ::
    ⟨some 48, .mv 0 (.t 13), none⟩ ::
    ⟨some 8, .mv 0 (.t 47), none⟩ ::
    ⟨some 9, .mv 0 (.t 48), none⟩ ::
    []))
  (.ret)
def c32_8 : HCode :=
  .seq (.region none (⟨some 13, .mv 0 (.c (.int .i64 0)), none⟩ ::
    []))
  (.seq (.block 2 (.loop (c32_6)))
  (c32_7))
def c32_9 : HCode :=
  .seq (.seq (.region none (⟨some 28, .mv 3 (.t 1), none⟩ ::
    ⟨some 29, .len (.t 28), none⟩ ::
    ⟨some 30, .mv 0 (.c (.int .i64 0)), none⟩ ::
    []))
  (.block 0 (.loop (c32_4))))
  (c32_8)
def c32_10 : HCode :=
  .seq (.region none (⟨some 22, .mv 0 (.t 10), none⟩ ::
    ⟨some 23, .mv 0 (.t 0), none⟩ ::
    ⟨some 24, .mksl 1 24 [.osl 1 0 []] (.t 23), none⟩ ::
    ⟨some 25, .nilck (.t 22), none⟩ ::
    ⟨some 26, .faddr 0 (.t 25), none⟩ ::
    ⟨some 27, .faddr 2 (.t 26), none⟩ ::
    ⟨none, .store false 1 (.t 27) (.t 24), none⟩ ::
    []))
  (c32_9)
def c32_11 : HCode :=
  .seq (.region (some [0, 1, 0, 4, 0, 0, 63, 127, 255]) (⟨some 14, .mv 0 (.t 0), none⟩ ::
    ⟨some 15, .mksl 1 8 [.int .i64 0] (.t 14), none⟩ ::
    ⟨some 16, .mv 0 (.t 0), none⟩ ::
    ⟨some 17, .mksl 1 8 [.int .i64 0] (.t 16), none⟩ ::
    ⟨some 18, .mv 0 (.t 2), none⟩ ::
    ⟨some 19, .mv 0 (.t 3), none⟩ ::
    ⟨some 20, .bld [.nils, .nils, .nils, .nils, .nils, .int .i64 0, .int .i64 0] [(3, 1, (.t 15)), (4, 1, (.t 17)), (5, 1, (.t 18)), (6, 1, (.t 19))], none⟩ ::
    ⟨some 21, .newv 7 (.t 20), none⟩ ::
    ⟨some 10, .mv 0 (.t 21), none⟩ ::
    []))
  (c32_10)
def c32 : HCode :=
  .seq (.region none (⟨some 8, .mv 0 (.c (.nilp)), none⟩ ::
    ⟨some 9, .mv 0 (.c (.int .i64 0)), none⟩ ::
    []))
  (c32_11)
theorem fc32 : funCode Try.prog 32 = some (c32, [8, 9], 49) := by kernel_rfl

def c33_1 : HCode :=
  .seq (.region none (⟨some 1, .bld [.int .i64 0, .int .i64 0, .int .i64 0] [(0, 1, (.c (.int .i64 0))), (1, 1, (.c (.int .i64 1))), (2, 1, (.c (.int .i64 3)))], none⟩ ::
    ⟨some 2, .bld [.int .i64 0, .int .i64 0, .int .i64 0] [(0, 1, (.c (.int .i64 0))), (1, 1, (.c (.int .i64 2))), (2, 1, (.c (.int .i64 2)))], none⟩ ::
    ⟨some 3, .bld [.int .i64 0, .int .i64 0, .int .i64 0] [(0, 1, (.c (.int .i64 1))), (1, 1, (.c (.int .i64 3))), (2, 1, (.c (.int .i64 2)))], none⟩ ::
    ⟨some 4, .bld [.int .i64 0, .int .i64 0, .int .i64 0] [(0, 1, (.c (.int .i64 2))), (1, 1, (.c (.int .i64 3))), (2, 1, (.c (.int .i64 4)))], none⟩ ::
    ⟨some 5, .bld [.int .i64 0, .int .i64 0, .int .i64 0] [(0, 1, (.c (.int .i64 1))), (1, 1, (.c (.int .i64 2))), (2, 1, (.c (.int .i64 1)))], none⟩ ::
    ⟨some 6, .bsl 3 5 [(.t 1), (.t 2), (.t 3), (.t 4), (.t 5)], none⟩ ::
    ⟨some 0, .mv 3 (.t 6), none⟩ ::
    []))
  (.ret)
def c33 : HCode :=
  .seq (.region none (⟨some 0, .mv 3 (.c (.nils)), none⟩ ::
    []))
  (c33_1)
theorem fc33 : funCode Try.prog 33 = some (c33, [0], 7) := by kernel_rfl

def c34_1 : HCode :=
  .seq (.region none (⟨some 4, .mv 0 (.c (.bool false)), none⟩ ::
    []))
  (.ret)
def c34_2 : HCode :=
  .seq (.region none (⟨some 4, .mv 0 (.c (.bool false)), none⟩ ::
    []))
  (.ret)
def c34_3 : HCode :=
  .region none (⟨some 15, .mv 0 (.t 5), none⟩ ::
    ⟨some 16, .bin .add (.t 15) (.c (.int .i64 1)), none⟩ ::
    ⟨some 5, .mv 0 (.t 16), none⟩ ::
    [])
def c34_4 : HCode :=
  .seq (.block 1 (.seq (.region (some [0, 0, 3, 7, 0, 0, 48, 112, 255]) (⟨some 17, .mv 1 (.t 0), none⟩ ::
      ⟨some 18, .mv 0 (.t 5), none⟩ ::
      ⟨some 19, .iaddr 1 (.t 17) (.t 18), none⟩ ::
      ⟨some 20, .load false 1 (.t 19), none⟩ ::
      ⟨some 21, .mv 1 (.t 1), none⟩ ::
      ⟨some 22, .mv 0 (.t 5), none⟩ ::
      ⟨some 23, .iaddr 1 (.t 21) (.t 22), none⟩ ::
      ⟨some 24, .load false 1 (.t 23), none⟩ ::
      ⟨some 25, .bin .neq (.t 20) (.t 24), none⟩ ::
      []))
    (.cond (.t 25) (c34_2) (.skip))))
  (c34_3)
def c34_5 : HCode :=
  .seq (.seq (.region none (⟨some 11, .mv 0 (.t 5), none⟩ ::
    ⟨some 12, .mv 1 (.t 0), none⟩ ::
    ⟨some 13, .len (.t 12), none⟩ ::
    ⟨some 14, .bin .lss (.t 11) (.t 13), none⟩ ::
    []))
  (.cond (.t 14) (.skip) (.exit 0)))
  (c34_4)
def c34_6 : HCode :=
  .seq (.region none (⟨some 4, .mv 0 (.c (.bool true)), none⟩ ::
    []))
  (.ret)
def c34_7 : HCode :=
  .seq (.seq (.region none (⟨some 5, .mv 0 (.c (.int .i64 0)), none⟩ ::
    []))
  (.block 0 (.loop (c34_5))))
  (c34_6)
def c34_8 : HCode :=
  .seq (.seq (.region none (⟨some 6, .mv 1 (.t 0), none⟩ ::
    ⟨some 7, .len (.t 6), none⟩ ::
    ⟨some 8, .mv 1 (.t 1), none⟩ ::
    ⟨some 9, .len (.t 8), none⟩ ::
    ⟨some 10, .bin .neq (.t 7) (.t 9), none⟩ ::
    []))
  (.cond (.t 10) (c34_1) (.skip)))
  (c34_7)
def c34 : HCode :=
  .seq (.region none (⟨some 4, .mv 0 (.c (.bool false)), none⟩ ::
    []))
  (c34_8)
theorem fc34 : funCode Try.prog 34 = some (c34, [4], 26) := by kernel_rfl

def c35_1 : HCode :=
  .seq (.region none (⟨some 4, .mv 0 (.t 0), none⟩ ::
    ⟨some 5, .bin .geq (.t 4) (.c (.int .i64 0)), none⟩ ::
    ⟨some 6, .mv 0 (.t 5), none⟩ ::
    ⟨some 7, .mv 0 (.t 0), some (2, true)⟩ ::
    ⟨some 8, .load false 1 (.t 1), some (2, true)⟩ ::
    ⟨some 9, .bin .lss (.t 7) (.t 8), some (2, true)⟩ ::
    ⟨some 10, .pick (.t 6) (.t 9) (.c (.bool false)), none⟩ ::
    ⟨some 3, .mv 0 (.t 10), none⟩ ::
    []))
  (.ret)
def c35 : HCode :=
  .seq (.region none (⟨some 3, .mv 0 (.c (.bool false)), none⟩ ::
    []))
  (c35_1)
theorem fc35 : funCode Try.prog 35 = some (c35, [3], 11) := by kernel_rfl

def c36_1 : HCode :=
  .seq (.region none (⟨some 2, .mv 0 (.c (.int .i64 0)), none⟩ ::
    []))
  (.ret)
def c36_2 : HCode :=
  .seq (.region none (⟨some 2, .mv 0 (.c (.int .i64 1099511627776)), none⟩ ::
    []))
  (.ret)
def c36_3 : HCode :=
  .seq (.region none (⟨some 11, .mv 0 (.t 0), none⟩ ::
    ⟨some 12, .bin .quo (.t 11) (.c (.int .i64 12)), none⟩ ::
    ⟨some 13, .call 20 [(.t 12), (.c (.int .i64 9))], none⟩ ::
    ⟨some 14, .bin .sub (.c (.int .i64 1099511627776)) (.t 13), none⟩ ::
    ⟨some 2, .mv 0 (.t 14), none⟩ ::
    []))
  (.ret)
def c36_4 : HCode :=
  .seq (.region none (⟨some 10, .bin .eql (.t 4) (.c (.int .i64 2)), none⟩ ::
    ⟨some 9, .mv 0 (.t 10), none⟩ ::
    []))
  (.cond (.t 9) (c36_3) (.skip))
def c36_5 : HCode :=
  .seq (.region none (⟨some 8, .bin .eql (.t 4) (.c (.int .i64 1)), none⟩ ::
    ⟨some 7, .mv 0 (.t 8), none⟩ ::
    []))
  (.cond (.t 7) (c36_2) (c36_4))
def c36_6 : HCode :=
  .block 0 (.seq (.region none (⟨some 6, .bin .eql (.t 4) (.c (.int .i64 0)), none⟩ ::
      ⟨some 5, .mv 0 (.t 6), none⟩ ::
      []))
    (.cond (.t 5) (c36_1) (c36_5)))
def c36_7 : HCode :=
  .seq (.region none (⟨some 15, .mv 0 (.t 0), none⟩ ::
    ⟨some 16, .bin .quo (.t 15) (.c (.int .i64 12)), none⟩ ::
    ⟨some 17, .call 20 [(.t 16), (.c (.int .i64 20))], none⟩ ::
    ⟨some 2, .mv 0 (.t 17), none⟩ ::
    []))
  (.ret)
def c36_8 : HCode :=
  .seq (.seq (.region none (⟨some 3, .mv 0 (.t 0), none⟩ ::
    ⟨some 4, .call 20 [(.t 3), (.c (.int .i64 12))], none⟩ ::
    []))
  (c36_6))
  (c36_7)
def c36 : HCode :=
  .seq (.region none (⟨some 2, .mv 0 (.c (.int .i64 0)), none⟩ ::
    []))
  (c36_8)
theorem fc36 : funCode Try.prog 36 = some (c36, [2], 18) := by kernel_rfl

def c37_1 : HCode :=
  .seq (.region none (⟨some 4, .mv 0 (.c (.bool false)), none⟩ ::
    []))
  (.ret)
def c37_2 : HCode :=
  .seq (.region none (⟨some 4, .mv 0 (.c (.bool false)), none⟩ ::
    []))
  (.ret)
def c37_3 : HCode :=
  .seq (.region none (⟨some 32, .mv 0 (.t 8), none⟩ ::
    ⟨some 33, .bin .lss (.t 32) (.c (.int .i64 0)), none⟩ ::
    ⟨some 34, .mv 0 (.t 33), none⟩ ::
    ⟨some 35, .mv 0 (.t 8), some (2, false)⟩ ::
    ⟨some 36, .mv 1 (.t 0), some (2, false)⟩ ::
    ⟨some 37, .len (.t 36), some (2, false)⟩ ::
    ⟨some 38, .bin .geq (.t 35) (.t 37), some (2, false)⟩ ::
    ⟨some 39, .pick (.t 34) (.c (.bool true)) (.t 38), none⟩ ::
    ⟨some 40, .mv 0 (.t 39), none⟩ ::
    ⟨some 41, .mv 0 (.t 7), some (8, false)⟩ ::
    ⟨some 42, .bin .gtr (.t 41) (.c (.int .i64 0)), some (8, false)⟩ ::
    ⟨some 43, .mv 0 (.t 42), some (8, false)⟩ ::
    ⟨some 44, .mv 0 (.t 8), some (11, true)⟩ ::
    ⟨some 45, .mv 1 (.t 6), some (11, true)⟩ ::
    ⟨some 46, .mv 0 (.t 7), some (11, true)⟩ ::
    ⟨some 47, .bin .sub (.t 46) (.c (.int .i64 1)), some (11, true)⟩ ::
    ⟨some 48, .iaddr 1 (.t 45) (.t 47), some (11, true)⟩ ::
    ⟨some 49, .load false 1 (.t 48), some (11, true)⟩ ::
    ⟨some 50, .bin .leq (.t 44) (.t 49), some (11, true)⟩ ::
    ⟨some 51, .pick (.t 43) (.t 50) (.c (.bool false)), some (8, false)⟩ ::
    ⟨some 52, .pick (.t 40) (.c (.bool true)) (.t 51), none⟩ ::
    []))
  (.cond (.t 52) (c37_2) (.skip))
def c37_4 : HCode :=
  .region none (⟨some 53, .bin .add (.t 27) (.c (.int .i64 1)), none⟩ ::
    ⟨some 27, .mv 0 (.t 53), none⟩ ::
    [])
def c37_5 : HCode :=
  .seq (.block 3 (.seq (.region none (⟨some 29, .mv 0 (.t 27), none⟩ ::
      ⟨some 30, .iaddr 1 (.t 25) (.t 27), none⟩ ::
      ⟨some 31, .load false 1 (.t 30), none⟩ ::
      ⟨some 7, .mv 0 (.t 29), none⟩ ::
      ⟨some 8, .mv 0 (.t 31), none⟩ ::
      []))
    (c37_3)))
  (c37_4)
def c37_6 : HCode :=
  .seq (.region none (⟨some 28, .bin .lss (.t 27) (.t 26), none⟩ ::
    []))
  (.seq (.cond (.t 28) (.skip) (.exit 2))
  (c37_5))
def c37_7 : HCode :=
  .seq (.region none (⟨some 25, .mv 1 (.t 6), none⟩ ::
    ⟨some 26, .len (.t 25), none⟩ ::
    ⟨some 27, .mv 0 (.c (.int .i64 0)), none⟩ ::
    []))
  (.block 2 (.loop (c37_6)))
def c37_8 : HCode :=
  .region none (⟨some 54, .bin .add (.t 21) (.c (.int .i64 1)), none⟩ ::
    ⟨some 21, .mv 0 (.t 54), none⟩ ::
    [])
def c37_9 : HCode :=
  .seq (.block 1 (.seq (.region none (⟨some 23, .iaddr 1 (.t 19) (.t 21), none⟩ ::
      ⟨some 24, .load false 1 (.t 23), none⟩ ::
      ⟨some 6, .mv 1 (.t 24), none⟩ ::
      []))
    (c37_7)))
  (c37_8)
def c37_10 : HCode :=
  .seq (.region none (⟨some 22, .bin .lss (.t 21) (.t 20), none⟩ ::
    []))
  (.seq (.cond (.t 22) (.skip) (.exit 0))
  (c37_9))
def c37_11 : HCode :=
  .seq (.region none (⟨some 4, .mv 0 (.c (.bool true)), none⟩ ::
    []))
  (.ret)
def c37_12 : HCode :=
  .seq (.seq (.region none (⟨some 19, .mv 1 (.t 0), none⟩ ::
    ⟨some 20, .len (.t 19), none⟩ ::
    ⟨some 21, .mv 0 (.c (.int .i64 0)), none⟩ ::
    []))
  (.block 0 (.loop (c37_10))))
  (c37_11)
def c37_13 : HCode :=
  .seq (.seq (.region none (⟨some 9, .mv 1 (.t 0), none⟩ ::
    ⟨some 10, .len (.t 9), none⟩ ::
    ⟨some 11, .bin .gtr (.t 10) (.c (.int .i64 256)), none⟩ ::
    ⟨some 12, .mv 0 (.t 11), none⟩ ::
    ⟨some 13, .mv 1 (.t 1), some (3, false)⟩ ::
    ⟨some 14, .len (.t 13), some (3, false)⟩ ::
    ⟨some 15, .mv 1 (.t 0), some (3, false)⟩ ::
    ⟨some 16, .len (.t 15), some (3, false)⟩ ::
    ⟨some 17, .bin .neq (.t 14) (.t 16), some (3, false)⟩ ::
    ⟨some 18, .pick (.t 12) (.c (.bool true)) (.t 17), none⟩ ::
    []))
  (.cond (.t 18) (c37_1) (.skip)))
  (c37_12)
def c37 : HCode :=
  .seq (.region none (⟨some 4, .mv 0 (.c (.bool false)), none⟩ ::
    []))
  (c37_13)
theorem fc37 : funCode Try.prog 37 = some (c37, [4], 55) := by kernel_rfl

def c38_1 : HCode :=
  .region none (⟨some 18, .mv 1 (.t 6), none⟩ ::
    ⟨some 19, .mv 1 (.t 0), none⟩ ::
    ⟨some 20, .mv 1 (.t 1), none⟩ ::
    ⟨some 21, .mv 0 (.t 7), none⟩ ::
    ⟨some 22, .call 43 [(.t 19), (.t 20), (.t 21)], none⟩ ::
    ⟨some 23, .bsl 1 1 [(.t 22)], none⟩ ::
    ⟨some 24, .app false 1 24 (.t 18) (.t 23), none⟩ ::
    ⟨some 6, .mv 1 (.t 24), none⟩ ::
    [])
def c38_2 : HCode :=
  .region none (⟨some 25, .bin .add (.t 15) (.c (.int .i64 1)), none⟩ ::
    ⟨some 15, .mv 0 (.t 25), none⟩ ::
    [])
def c38_3 : HCode :=
  .seq (.block 1 (.seq (.region none (⟨some 17, .mv 0 (.t 15), none⟩ ::
      ⟨some 7, .mv 0 (.t 17), none⟩ ::
      []))
    (c38_1)))
  (c38_2)
def c38_4 : HCode :=
  .seq (.region none (⟨some 16, .bin .lss (.t 15) (.t 14), none⟩ ::
    []))
  (.seq (.cond (.t 16) (.skip) (.exit 0))
  (c38_3))
def c38_5 : HCode :=
  .region none (⟨some 82, .mv 1 (.t 8), none⟩ ::
    ⟨some 83, .mv 0 (.t 12), none⟩ ::
    ⟨some 84, .mv 1 (.t 6), none⟩ ::
    ⟨some 85, .mv 0 (.t 12), none⟩ ::
    ⟨some 86, .iaddr 1 (.t 84) (.t 85), none⟩ ::
    ⟨some 87, .load false 1 (.t 86), none⟩ ::
    ⟨some 88, .mv 0 (.t 9), none⟩ ::
    ⟨some 89, .iaddr 1 (.t 87) (.t 88), none⟩ ::
    ⟨some 90, .load false 1 (.t 89), none⟩ ::
    ⟨some 91, .bin .add (.t 90) (.c (.int .i64 1)), none⟩ ::
    ⟨some 92, .iaddr 1 (.t 82) (.t 83), none⟩ ::
    ⟨none, .store true 1 (.t 92) (.t 91), none⟩ ::
    [])
def c38_6 : HCode :=
  .seq (.region (some [0, 0, 3, 7, 15, 31, 63, 63, 255, 511, 63, 2047, 4095, 8191, 63, 63, 49215, 114751, 262143, 524287]) (⟨some 62, .mv 1 (.t 8), none⟩ ::
    ⟨some 63, .mv 0 (.t 12), none⟩ ::
    ⟨some 64, .iaddr 1 (.t 62) (.t 63), none⟩ ::
    ⟨some 65, .load false 1 (.t 64), none⟩ ::
    ⟨some 66, .bin .eql (.t 65) (.c (.int .i64 0)), none⟩ ::
    ⟨some 67, .mv 0 (.t 66), none⟩ ::
    ⟨some 68, .mv 1 (.t 6), some (5, false)⟩ ::
    ⟨some 69, .mv 0 (.t 12), some (5, false)⟩ ::
    ⟨some 70, .iaddr 1 (.t 68) (.t 69), some (5, false)⟩ ::
    ⟨some 71, .load false 1 (.t 70), some (5, false)⟩ ::
    ⟨some 72, .mv 0 (.t 9), some (5, false)⟩ ::
    ⟨some 73, .iaddr 1 (.t 71) (.t 72), some (5, false)⟩ ::
    ⟨some 74, .load false 1 (.t 73), some (5, false)⟩ ::
    ⟨some 75, .bin .add (.t 74) (.c (.int .i64 1)), some (5, false)⟩ ::
    ⟨some 76, .mv 1 (.t 8), some (5, false)⟩ ::
    ⟨some 77, .mv 0 (.t 12), some (5, false)⟩ ::
    ⟨some 78, .iaddr 1 (.t 76) (.t 77), some (5, false)⟩ ::
    ⟨some 79, .load false 1 (.t 78), some (5, false)⟩ ::
    ⟨some 80, .bin .lss (.t 75) (.t 79), some (5, false)⟩ ::
    ⟨some 81, .pick (.t 67) (.c (.bool true)) (.t 80), none⟩ ::
    []))
  (.cond (.t 81) (c38_5) (.skip))
def c38_7 : HCode :=
  .seq (.seq (.region none (⟨some 42, .mv 1 (.t 1), none⟩ ::
    ⟨some 43, .mv 0 (.t 9), none⟩ ::
    ⟨some 44, .iaddr 1 (.t 42) (.t 43), none⟩ ::
    ⟨some 45, .load false 1 (.t 44), none⟩ ::
    ⟨some 46, .mv 0 (.t 45), none⟩ ::
    ⟨some 47, .mv 1 (.t 1), some (4, false)⟩ ::
    ⟨some 48, .mv 0 (.t 12), some (4, false)⟩ ::
    ⟨some 49, .iaddr 1 (.t 47) (.t 48), some (4, false)⟩ ::
    ⟨some 50, .load false 1 (.t 49), some (4, false)⟩ ::
    ⟨some 51, .pick (.t 46) (.c (.bool true)) (.t 50), none⟩ ::
    ⟨some 52, .mv 0 (.t 51), none⟩ ::
    ⟨some 53, .mv 1 (.t 6), some (10, false)⟩ ::
    ⟨some 54, .mv 0 (.t 12), some (10, false)⟩ ::
    ⟨some 55, .iaddr 1 (.t 53) (.t 54), some (10, false)⟩ ::
    ⟨some 56, .load false 1 (.t 55), some (10, false)⟩ ::
    ⟨some 57, .mv 0 (.t 9), some (10, false)⟩ ::
    ⟨some 58, .iaddr 1 (.t 56) (.t 57), some (10, false)⟩ ::
    ⟨some 59, .load false 1 (.t 58), some (10, false)⟩ ::
    ⟨some 60, .bin .lss (.t 59) (.c (.int .i64 0)), some (10, false)⟩ ::
    ⟨some 61, .pick (.t 52) (.c (.bool true)) (.t 60), none⟩ ::
    []))
  (.cond (.t 61) (.exit 5) (.skip)))
  (c38_6)
def c38_8 : HCode :=
  .region none (⟨some 93, .bin .add (.t 38) (.c (.int .i64 1)), none⟩ ::
    ⟨some 38, .mv 0 (.t 93), none⟩ ::
    [])
def c38_9 : HCode :=
  .seq (.block 5 (.seq (.region none (⟨some 40, .iaddr 1 (.t 36) (.t 38), none⟩ ::
      ⟨some 41, .load false 1 (.t 40), none⟩ ::
      ⟨some 12, .mv 0 (.t 41), none⟩ ::
      []))
    (c38_7)))
  (c38_8)
def c38_10 : HCode :=
  .seq (.region none (⟨some 39, .bin .lss (.t 38) (.t 37), none⟩ ::
    []))
  (.seq (.cond (.t 39) (.skip) (.exit 4))
  (c38_9))
def c38_11 : HCode :=
  .seq (.region none (⟨some 36, .mv 1 (.t 10), none⟩ ::
    ⟨some 37, .len (.t 36), none⟩ ::
    ⟨some 38, .mv 0 (.c (.int .i64 0)), none⟩ ::
    []))
  (.block 4 (.loop (c38_10)))
def c38_12 : HCode :=
  .region none (⟨some 94, .bin .add (.t 31) (.c (.int .i64 1)), none⟩ ::
    ⟨some 31, .mv 0 (.t 94), none⟩ ::
    [])
def c38_13 : HCode :=
  .seq (.block 3 (.seq (.region none (⟨some 33, .mv 0 (.t 31), none⟩ ::
      ⟨some 34, .iaddr 1 (.t 29) (.t 31), none⟩ ::
      ⟨some 35, .load false 1 (.t 34), none⟩ ::
      ⟨some 9, .mv 0 (.t 33), none⟩ ::
      ⟨some 10, .mv 1 (.t 35), none⟩ ::
      []))
    (c38_11)))
  (c38_12)
def c38_14 : HCode :=
  .seq (.region none (⟨some 32, .bin .lss (.t 31) (.t 30), none⟩ ::
    []))
  (.seq (.cond (.t 32) (.skip) (.exit 2))
  (c38_13))
def c38_15 : HCode :=
  .seq (.region none (⟨some 95, .mv 1 (.t 6), none⟩ ::
    ⟨some 96, .mv 1 (.t 8), none⟩ ::
    ⟨some 4, .mv 1 (.t 95), none⟩ ::
    ⟨some 5, .mv 1 (.t 96), none⟩ ::
    []))
  (.ret)
def c38_16 : HCode :=
  .seq (.seq (.region none (⟨some 29, .mv 1 (.t 0), none⟩ ::
    ⟨some 30, .len (.t 29), none⟩ ::
    ⟨some 31, .mv 0 (.c (.int .i64 0)), none⟩ ::
    []))
  (.block 2 (.loop (c38_14))))
  (c38_15)
def c38_17 : HCode :=
  .seq (.region none (⟨some 26, .mv 1 (.t 0), none⟩ ::
    ⟨some 27, .len (.t 26), none⟩ ::
    ⟨some 28, .mksl 1 8 [.int .i64 0] (.t 27), none⟩ ::
    ⟨some 8, .mv 1 (.t 28), none⟩ ::
    []))
  (c38_16)
def c38_18 : HCode :=
  .seq (.seq (.region none (⟨some 13, .mv 1 (.t 0), none⟩ ::
    ⟨some 14, .len (.t 13), none⟩ ::
    ⟨some 15, .mv 0 (.c (.int .i64 0)), none⟩ ::
    []))
  (.block 0 (.loop (c38_4))))
  (c38_17)
def c38_19 : HCode :=
  .seq (.region none (⟨some 6, .mv 1 (.c (.nils)), none⟩ ::
    []))
  (c38_18)
def c38 : HCode :=
  .seq (.region none (⟨some 4, .mv 1 (.c (.nils)), none⟩ ::
    ⟨some 5, .mv 1 (.c (.nils)), none⟩ ::
    []))
  (c38_19)
theorem fc38 : funCode Try.prog 38 = some (c38, [4, 5], 97) := by kernel_rfl

def c39_1 : HCode :=
  .region none (⟨some 38, .mv 0 (.t 7), none⟩ ::
    ⟨some 39, .mv 0 (.t 9), none⟩ ::
    ⟨some 40, .load false 1 (.t 4), none⟩ ::
    ⟨some 41, .mv 0 (.t 8), none⟩ ::
    ⟨some 42, .iaddr 1 (.t 40) (.t 41), none⟩ ::
    ⟨some 43, .load false 1 (.t 42), none⟩ ::
    ⟨some 44, .bin .add (.t 39) (.t 43), none⟩ ::
    ⟨some 45, .mm false (.t 38) (.t 44), none⟩ ::
    ⟨some 7, .mv 0 (.t 45), none⟩ ::
    [])
def c39_2 : HCode :=
  .seq (.region none (⟨some 23, .mv 0 (.t 9), none⟩ ::
    ⟨some 24, .bin .geq (.t 23) (.c (.int .i64 0)), none⟩ ::
    ⟨some 25, .mv 0 (.t 24), none⟩ ::
    ⟨some 26, .load false 1 (.t 3), some (2, true)⟩ ::
    ⟨some 27, .mv 0 (.t 8), some (2, true)⟩ ::
    ⟨some 28, .iaddr 1 (.t 26) (.t 27), some (2, true)⟩ ::
    ⟨some 29, .load false 1 (.t 28), some (2, true)⟩ ::
    ⟨some 30, .mv 0 (.t 29), some (2, true)⟩ ::
    ⟨some 31, .load false 1 (.t 4), some (7, false)⟩ ::
    ⟨some 32, .mv 0 (.t 8), some (7, false)⟩ ::
    ⟨some 33, .iaddr 1 (.t 31) (.t 32), some (7, false)⟩ ::
    ⟨some 34, .load false 1 (.t 33), some (7, false)⟩ ::
    ⟨some 35, .bin .gtr (.t 34) (.c (.int .i64 0)), some (7, false)⟩ ::
    ⟨some 36, .pick (.t 30) (.c (.bool true)) (.t 35), some (2, true)⟩ ::
    ⟨some 37, .pick (.t 25) (.t 36) (.c (.bool false)), none⟩ ::
    []))
  (.cond (.t 37) (c39_1) (.skip))
def c39_3 : HCode :=
  .region none (⟨some 46, .bin .add (.t 18) (.c (.int .i64 1)), none⟩ ::
    ⟨some 18, .mv 0 (.t 46), none⟩ ::
    [])
def c39_4 : HCode :=
  .seq (.block 1 (.seq (.region none (⟨some 20, .mv 0 (.t 18), none⟩ ::
      ⟨some 21, .iaddr 1 (.t 16) (.t 18), none⟩ ::
      ⟨some 22, .load false 1 (.t 21), none⟩ ::
      ⟨some 8, .mv 0 (.t 20), none⟩ ::
      ⟨some 9, .mv 0 (.t 22), none⟩ ::
      []))
    (c39_2)))
  (c39_3)
def c39_5 : HCode :=
  .seq (.region none (⟨some 19, .bin .lss (.t 18) (.t 17), none⟩ ::
    []))
  (.seq (.cond (.t 19) (.skip) (.exit 0))
  (c39_4))
def c39_6 : HCode :=
  .seq (.region none (⟨some 47, .mv 0 (.t 7), none⟩ ::
    ⟨some 6, .mv 0 (.t 47), none⟩ ::
    []))
  (.ret)
def c39_7 : HCode :=
  .seq (.seq (.region none (⟨some 13, .load false 1 (.t 2), none⟩ ::
    ⟨some 14, .mv 0 (.t 0), none⟩ ::
    ⟨some 15, .iaddr 1 (.t 13) (.t 14), none⟩ ::
    ⟨some 16, .load false 1 (.t 15), none⟩ ::
    ⟨some 17, .len (.t 16), none⟩ ::
    ⟨some 18, .mv 0 (.c (.int .i64 0)), none⟩ ::
    []))
  (.block 0 (.loop (c39_5))))
  (c39_6)
def c39_8 : HCode :=
  .seq (.region none (⟨some 10, .load false 1 (.t 1), none⟩ ::
    ⟨some 11, .len (.t 10), none⟩ ::
    ⟨some 12, .bin .mul (.c (.int .i64 2)) (.t 11), none⟩ ::
    ⟨some 7, .mv 0 (.t 12), none⟩ ::
    []))
  (c39_7)
def c39 : HCode :=
  .seq (.region none (⟨some 6, .mv 0 (.c (.int .i64 0)), none⟩ ::
    []))
  (c39_8)
theorem fc39 : funCode Try.prog 39 = some (c39, [6], 48) := by kernel_rfl

def c40_1 : HCode :=
  .region (some [0, 0, 2, 6, 14, 0, 32, 96, 254, 511, 1023, 2047]) (⟨some 62, .mv 0 (.t 0), none⟩ ::
    ⟨some 63, .mv 0 (.t 0), none⟩ ::
    ⟨some 64, .nilck (.t 63), none⟩ ::
    ⟨some 65, .faddr 1 (.t 64), none⟩ ::
    ⟨some 66, .load false 1 (.t 65), none⟩ ::
    ⟨some 67, .faddr 2 (.t 3), none⟩ ::
    ⟨some 68, .load false 1 (.t 67), none⟩ ::
    ⟨some 69, .bsl 1 2 [(.t 68), (.c (.int .i64 0))], none⟩ ::
    ⟨some 70, .app true 1 8 (.t 66) (.t 69), none⟩ ::
    ⟨some 71, .nilck (.t 62), none⟩ ::
    ⟨some 72, .faddr 1 (.t 71), none⟩ ::
    ⟨none, .store false 1 (.t 72) (.t 70), none⟩ ::
    [])
def c40_2 : HCode :=
  .seq (.region (some [0, 0, 2, 6, 14, 0, 32, 0, 128, 480, 1022, 2047, 4095, 8191]) (⟨some 49, .mv 0 (.t 0), none⟩ ::
    ⟨some 50, .mv 0 (.t 0), none⟩ ::
    ⟨some 51, .nilck (.t 50), none⟩ ::
    ⟨some 52, .faddr 0 (.t 51), none⟩ ::
    ⟨some 53, .load false 1 (.t 52), none⟩ ::
    ⟨some 54, .faddr 1 (.t 3), none⟩ ::
    ⟨some 55, .load false 1 (.t 54), none⟩ ::
    ⟨some 56, .faddr 0 (.t 3), none⟩ ::
    ⟨some 57, .load false 1 (.t 56), none⟩ ::
    ⟨some 58, .bsl 1 2 [(.t 55), (.t 57)], none⟩ ::
    ⟨some 59, .app true 1 8 (.t 53) (.t 58), none⟩ ::
    ⟨some 60, .nilck (.t 49), none⟩ ::
    ⟨some 61, .faddr 0 (.t 60), none⟩ ::
    ⟨none, .store false 1 (.t 61) (.t 59), none⟩ ::
    []))
  (c40_1)
def c40_3 : HCode :=
  .seq (.region (some [0, 1, 3, 7, 0, 16, 0, 64, 192, 448, 0, 1024, 4032, 8128, 0, 16384, 49152, 114688, 245760, 507904, 1032192, 2097088, 4194303, 8388607]) (⟨some 26, .mv 0 (.t 0), none⟩ ::
    ⟨some 27, .nilck (.t 26), none⟩ ::
    ⟨some 28, .faddr 2 (.t 27), none⟩ ::
    ⟨some 29, .load false 1 (.t 28), none⟩ ::
    ⟨some 30, .faddr 1 (.t 3), none⟩ ::
    ⟨some 31, .load false 1 (.t 30), none⟩ ::
    ⟨some 32, .mv 0 (.t 0), none⟩ ::
    ⟨some 33, .nilck (.t 32), none⟩ ::
    ⟨some 34, .faddr 2 (.t 33), none⟩ ::
    ⟨some 35, .load false 1 (.t 34), none⟩ ::
    ⟨some 36, .faddr 1 (.t 3), none⟩ ::
    ⟨some 37, .load false 1 (.t 36), none⟩ ::
    ⟨some 38, .iaddr 1 (.t 35) (.t 37), none⟩ ::
    ⟨some 39, .load false 1 (.t 38), none⟩ ::
    ⟨some 40, .mv 0 (.t 0), none⟩ ::
    ⟨some 41, .nilck (.t 40), none⟩ ::
    ⟨some 42, .faddr 0 (.t 41), none⟩ ::
    ⟨some 43, .load false 1 (.t 42), none⟩ ::
    ⟨some 44, .len (.t 43), none⟩ ::
    ⟨some 45, .bin .add (.t 44) (.c (.int .i64 1)), none⟩ ::
    ⟨some 46, .bsl 1 1 [(.t 45)], none⟩ ::
    ⟨some 47, .app true 1 8 (.t 39) (.t 46), none⟩ ::
    ⟨some 48, .iaddr 1 (.t 29) (.t 31), none⟩ ::
    ⟨none, .store false 1 (.t 48) (.t 47), none⟩ ::
    []))
  (c40_2)
def c40_4 : HCode :=
  .seq (.region (some [0, 1, 3, 7, 0, 16, 0, 64, 192, 448, 0, 1024, 4032, 8128, 0, 16384, 49152, 114688, 245760, 507904, 1048512, 2097151, 4194303]) (⟨some 4, .mv 0 (.t 0), none⟩ ::
    ⟨some 5, .nilck (.t 4), none⟩ ::
    ⟨some 6, .faddr 2 (.t 5), none⟩ ::
    ⟨some 7, .load false 1 (.t 6), none⟩ ::
    ⟨some 8, .faddr 0 (.t 3), none⟩ ::
    ⟨some 9, .load false 1 (.t 8), none⟩ ::
    ⟨some 10, .mv 0 (.t 0), none⟩ ::
    ⟨some 11, .nilck (.t 10), none⟩ ::
    ⟨some 12, .faddr 2 (.t 11), none⟩ ::
    ⟨some 13, .load false 1 (.t 12), none⟩ ::
    ⟨some 14, .faddr 0 (.t 3), none⟩ ::
    ⟨some 15, .load false 1 (.t 14), none⟩ ::
    ⟨some 16, .iaddr 1 (.t 13) (.t 15), none⟩ ::
    ⟨some 17, .load false 1 (.t 16), none⟩ ::
    ⟨some 18, .mv 0 (.t 0), none⟩ ::
    ⟨some 19, .nilck (.t 18), none⟩ ::
    ⟨some 20, .faddr 0 (.t 19), none⟩ ::
    ⟨some 21, .load false 1 (.t 20), none⟩ ::
    ⟨some 22, .len (.t 21), none⟩ ::
    ⟨some 23, .bsl 1 1 [(.t 22)], none⟩ ::
    ⟨some 24, .app true 1 8 (.t 17) (.t 23), none⟩ ::
    ⟨some 25, .iaddr 1 (.t 7) (.t 9), none⟩ ::
    ⟨none, .store false 1 (.t 25) (.t 24), none⟩ ::
    []))
  (c40_3)
def c40 : HCode :=
  .seq (.region none (⟨some 3, .newv 3 (.t 1), none⟩ ::
    []))
  (c40_4)
theorem fc40 : funCode Try.prog 40 = some (c40, [], 73) := by kernel_rfl

def c41_1 : HCode :=
  .region none (⟨some 23, .mv 0 (.t 0), none⟩ ::
    ⟨some 24, .nilck (.t 23), none⟩ ::
    ⟨some 25, .faddr 4 (.t 24), none⟩ ::
    ⟨some 26, .load false 1 (.t 25), none⟩ ::
    ⟨some 27, .mv 0 (.t 3), none⟩ ::
    ⟨some 28, .iaddr 1 (.t 26) (.t 27), none⟩ ::
    ⟨none, .store true 1 (.t 28) (.c (.int .i64 0)), none⟩ ::
    [])
def c41_2 : HCode :=
  .seq (.region none (⟨some 17, .mv 0 (.t 0), none⟩ ::
    ⟨some 18, .nilck (.t 17), none⟩ ::
    ⟨some 19, .faddr 3 (.t 18), none⟩ ::
    ⟨some 20, .load false 1 (.t 19), none⟩ ::
    ⟨some 21, .mv 0 (.t 3), none⟩ ::
    ⟨some 22, .iaddr 1 (.t 20) (.t 21), none⟩ ::
    ⟨none, .store true 1 (.t 22) (.c (.int .i64 (-1))), none⟩ ::
    []))
  (c41_1)
def c41_3 : HCode :=
  .region none (⟨some 29, .bin .add (.t 14) (.c (.int .i64 1)), none⟩ ::
    ⟨some 14, .mv 0 (.t 29), none⟩ ::
    [])
def c41_4 : HCode :=
  .seq (.block 1 (.seq (.region none (⟨some 16, .mv 0 (.t 14), none⟩ ::
      ⟨some 3, .mv 0 (.t 16), none⟩ ::
      []))
    (c41_2)))
  (c41_3)
def c41_5 : HCode :=
  .seq (.region none (⟨some 15, .bin .lss (.t 14) (.t 13), none⟩ ::
    []))
  (.seq (.cond (.t 15) (.skip) (.exit 0))
  (c41_4))
def c41_6 : HCode :=
  .region none (⟨some 106, .mv 1 (.t 4), none⟩ ::
    ⟨some 107, .mv 0 (.t 8), none⟩ ::
    ⟨some 108, .bsl 1 1 [(.t 107)], none⟩ ::
    ⟨some 109, .app true 1 8 (.t 106) (.t 108), none⟩ ::
    ⟨some 4, .mv 1 (.t 109), none⟩ ::
    [])
def c41_7 : HCode :=
  .seq (.region (some [0, 1, 3, 7, 0, 0, 32, 96, 224, 0, 992, 2016, 4064, 8191, 16383]) (⟨some 92, .mv 0 (.t 0), none⟩ ::
    ⟨some 93, .nilck (.t 92), none⟩ ::
    ⟨some 94, .faddr 3 (.t 93), none⟩ ::
    ⟨some 95, .load false 1 (.t 94), none⟩ ::
    ⟨some 96, .mv 0 (.t 8), none⟩ ::
    ⟨some 97, .mv 0 (.t 0), none⟩ ::
    ⟨some 98, .nilck (.t 97), none⟩ ::
    ⟨some 99, .faddr 3 (.t 98), none⟩ ::
    ⟨some 100, .load false 1 (.t 99), none⟩ ::
    ⟨some 101, .mv 0 (.t 5), none⟩ ::
    ⟨some 102, .iaddr 1 (.t 100) (.t 101), none⟩ ::
    ⟨some 103, .load false 1 (.t 102), none⟩ ::
    ⟨some 104, .bin .add (.t 103) (.c (.int .i64 1)), none⟩ ::
    ⟨some 105, .iaddr 1 (.t 95) (.t 96), none⟩ ::
    ⟨none, .store true 1 (.t 105) (.t 104), none⟩ ::
    []))
  (c41_6)
def c41_8 : HCode :=
  .seq (.region none (⟨some 73, .mv 0 (.t 0), none⟩ ::
    ⟨some 74, .nilck (.t 73), none⟩ ::
    ⟨some 75, .faddr 0 (.t 74), none⟩ ::
    ⟨some 76, .faddr 1 (.t 75), none⟩ ::
    ⟨some 77, .load false 1 (.t 76), none⟩ ::
    ⟨some 78, .mv 0 (.t 7), none⟩ ::
    ⟨some 79, .iaddr 1 (.t 77) (.t 78), none⟩ ::
    ⟨some 80, .load false 1 (.t 79), none⟩ ::
    ⟨some 81, .bin .gtr (.t 80) (.c (.int .i64 0)), none⟩ ::
    ⟨some 82, .mv 0 (.t 81), none⟩ ::
    ⟨some 83, .mv 0 (.t 0), some (9, true)⟩ ::
    ⟨some 84, .nilck (.t 83), some (9, true)⟩ ::
    ⟨some 85, .faddr 3 (.t 84), some (9, true)⟩ ::
    ⟨some 86, .load false 1 (.t 85), some (9, true)⟩ ::
    ⟨some 87, .mv 0 (.t 8), some (9, true)⟩ ::
    ⟨some 88, .iaddr 1 (.t 86) (.t 87), some (9, true)⟩ ::
    ⟨some 89, .load false 1 (.t 88), some (9, true)⟩ ::
    ⟨some 90, .bin .lss (.t 89) (.c (.int .i64 0)), some (9, true)⟩ ::
    ⟨some 91, .pick (.t 82) (.t 90) (.c (.bool false)), none⟩ ::
    []))
  (.cond (.t 91) (c41_7) (.skip))
def c41_9 : HCode :=
  .seq (.region none (⟨some 65, .mv 0 (.t 0), none⟩ ::
    ⟨some 66, .nilck (.t 65), none⟩ ::
    ⟨some 67, .faddr 0 (.t 66), none⟩ ::
    ⟨some 68, .faddr 0 (.t 67), none⟩ ::
    ⟨some 69, .load false 1 (.t 68), none⟩ ::
    ⟨some 70, .mv 0 (.t 7), none⟩ ::
    ⟨some 71, .iaddr 1 (.t 69) (.t 70), none⟩ ::
    ⟨some 72, .load false 1 (.t 71), none⟩ ::
    ⟨some 8, .mv 0 (.t 72), none⟩ ::
    []))
  (c41_8)
def c41_10 : HCode :=
  .region none (⟨some 110, .bin .add (.t 61) (.c (.int .i64 1)), none⟩ ::
    ⟨some 61, .mv 0 (.t 110), none⟩ ::
    [])
def c41_11 : HCode :=
  .seq (.block 5 (.seq (.region none (⟨some 63, .iaddr 1 (.t 59) (.t 61), none⟩ ::
      ⟨some 64, .load false 1 (.t 63), none⟩ ::
      ⟨some 7, .mv 0 (.t 64), none⟩ ::
      []))
    (c41_9)))
  (c41_10)
def c41_12 : HCode :=
  .seq (.region none (⟨some 62, .bin .lss (.t 61) (.t 60), none⟩ ::
    []))
  (.seq (.cond (.t 62) (.skip) (.exit 4))
  (c41_11))
def c41_13 : HCode :=
  .seq (.region none (⟨some 52, .mv 0 (.t 0), none⟩ ::
    ⟨some 53, .nilck (.t 52), none⟩ ::
    ⟨some 54, .faddr 0 (.t 53), none⟩ ::
    ⟨some 55, .faddr 2 (.t 54), none⟩ ::
    ⟨some 56, .load false 1 (.t 55), none⟩ ::
    ⟨some 57, .mv 0 (.t 5), none⟩ ::
    ⟨some 58, .iaddr 1 (.t 56) (.t 57), none⟩ ::
    ⟨some 59, .load false 1 (.t 58), none⟩ ::
    ⟨some 60, .len (.t 59), none⟩ ::
    ⟨some 61, .mv 0 (.c (.int .i64 0)), none⟩ ::
    []))
  (.block 4 (.loop (c41_12)))
def c41_14 : HCode :=
  .seq (.region none (⟨some 50, .mv 1 (.t 4), none⟩ ::
    ⟨some 51, .slc 1 (.t 50) (some (.c (.int .i64 1))) none, none⟩ ::
    ⟨some 4, .mv 1 (.t 51), none⟩ ::
    []))
  (c41_13)
def c41_15 : HCode :=
  .block 3 (.seq (.region none (⟨some 47, .mv 1 (.t 4), none⟩ ::
      ⟨some 48, .iaddr 1 (.t 47) (.c (.int .i64 0)), none⟩ ::
      ⟨some 49, .load false 1 (.t 48), none⟩ ::
      ⟨some 5, .mv 0 (.t 49), none⟩ ::
      []))
    (c41_14))
def c41_16 : HCode :=
  .seq (.seq (.region none (⟨some 44, .mv 1 (.t 4), none⟩ ::
    ⟨some 45, .len (.t 44), none⟩ ::
    ⟨some 46, .bin .gtr (.t 45) (.c (.int .i64 0)), none⟩ ::
    []))
  (.cond (.t 46) (.skip) (.exit 2)))
  (c41_15)
def c41_17 : HCode :=
  .seq (.region (some [0, 1, 3, 7, 0, 16, 48, 112, 255, 511, 1023, 2047]) (⟨some 111, .mv 0 (.t 0), none⟩ ::
    ⟨some 112, .nilck (.t 111), none⟩ ::
    ⟨some 113, .faddr 3 (.t 112), none⟩ ::
    ⟨some 114, .load false 1 (.t 113), none⟩ ::
    ⟨some 115, .mv 0 (.t 0), none⟩ ::
    ⟨some 116, .nilck (.t 115), none⟩ ::
    ⟨some 117, .faddr 6 (.t 116), none⟩ ::
    ⟨some 118, .load false 1 (.t 117), none⟩ ::
    ⟨some 119, .iaddr 1 (.t 114) (.t 118), none⟩ ::
    ⟨some 120, .load false 1 (.t 119), none⟩ ::
    ⟨some 121, .bin .geq (.t 120) (.c (.int .i64 0)), none⟩ ::
    ⟨some 2, .mv 0 (.t 121), none⟩ ::
    []))
  (.ret)
def c41_18 : HCode :=
  .seq (.region none (⟨some 39, .mv 0 (.t 0), none⟩ ::
    ⟨some 40, .nilck (.t 39), none⟩ ::
    ⟨some 41, .faddr 5 (.t 40), none⟩ ::
    ⟨some 42, .load false 1 (.t 41), none⟩ ::
    ⟨some 43, .bsl 1 1 [(.t 42)], none⟩ ::
    ⟨some 4, .mv 1 (.t 43), none⟩ ::
    []))
  (.seq (.block 2 (.loop (c41_16)))
  (c41_17))
def c41_19 : HCode :=
  .seq (.region (some [0, 1, 3, 7, 0, 16, 48, 112, 255, 511]) (⟨some 30, .mv 0 (.t 0), none⟩ ::
    ⟨some 31, .nilck (.t 30), none⟩ ::
    ⟨some 32, .faddr 3 (.t 31), none⟩ ::
    ⟨some 33, .load false 1 (.t 32), none⟩ ::
    ⟨some 34, .mv 0 (.t 0), none⟩ ::
    ⟨some 35, .nilck (.t 34), none⟩ ::
    ⟨some 36, .faddr 5 (.t 35), none⟩ ::
    ⟨some 37, .load false 1 (.t 36), none⟩ ::
    ⟨some 38, .iaddr 1 (.t 33) (.t 37), none⟩ ::
    ⟨none, .store true 1 (.t 38) (.c (.int .i64 0)), none⟩ ::
    []))
  (c41_18)
def c41_20 : HCode :=
  .seq (.seq (.region none (⟨some 9, .mv 0 (.t 0), none⟩ ::
    ⟨some 10, .nilck (.t 9), none⟩ ::
    ⟨some 11, .faddr 3 (.t 10), none⟩ ::
    ⟨some 12, .load false 1 (.t 11), none⟩ ::
    ⟨some 13, .len (.t 12), none⟩ ::
    ⟨some 14, .mv 0 (.c (.int .i64 0)), none⟩ ::
    []))
  (.block 0 (.loop (c41_5))))
  (c41_19)
def c41 : HCode :=
  .seq (.region none (⟨some 2, .mv 0 (.c (.bool false)), none⟩ ::
    []))
  (c41_20)
theorem fc41 : funCode Try.prog 41 = some (c41, [2], 122) := by kernel_rfl

def c42_1 : HCode :=
  .seq (.region none (⟨some 17, .mv 0 (.t 2), none⟩ ::
    ⟨some 6, .mv 0 (.t 17), none⟩ ::
    []))
  (.ret)
def c42_2 : HCode :=
  .seq (.region none (⟨some 120, .mv 0 (.t 7), none⟩ ::
    ⟨some 121, .mv 0 (.t 2), none⟩ ::
    ⟨some 122, .bin .eql (.t 120) (.t 121), none⟩ ::
    []))
  (.cond (.t 122) (.exit 0) (.skip))
def c42_3 : HCode :=
  .seq (.region none (⟨some 117, .mv 0 (.t 7), none⟩ ::
    ⟨some 118, .mv 0 (.t 10), none⟩ ::
    ⟨some 119, .bin .add (.t 117) (.t 118), none⟩ ::
    ⟨some 7, .mv 0 (.t 119), none⟩ ::
    []))
  (c42_2)
def c42_4 : HCode :=
  .seq (.region none (⟨some 111, .mv 0 (.t 0), none⟩ ::
    ⟨some 112, .nilck (.t 111), none⟩ ::
    ⟨some 113, .faddr 0 (.t 112), none⟩ ::
    ⟨some 114, .mv 0 (.t 8), none⟩ ::
    ⟨some 115, .mv 0 (.t 10), none⟩ ::
    ⟨some 116, .call 44 [(.t 113), (.t 114), (.t 115)], none⟩ ::
    []))
  (c42_3)
def c42_5 : HCode :=
  .seq (.region none (⟨some 96, .mv 0 (.t 0), none⟩ ::
    ⟨some 97, .mv 0 (.t 9), none⟩ ::
    ⟨some 98, .mv 0 (.t 2), none⟩ ::
    ⟨some 99, .mv 0 (.t 7), none⟩ ::
    ⟨some 100, .bin .sub (.t 98) (.t 99), none⟩ ::
    ⟨some 101, .mv 0 (.t 0), none⟩ ::
    ⟨some 102, .nilck (.t 101), none⟩ ::
    ⟨some 103, .faddr 0 (.t 102), none⟩ ::
    ⟨some 104, .faddr 1 (.t 103), none⟩ ::
    ⟨some 105, .load false 1 (.t 104), none⟩ ::
    ⟨some 106, .mv 0 (.t 8), none⟩ ::
    ⟨some 107, .iaddr 1 (.t 105) (.t 106), none⟩ ::
    ⟨some 108, .load false 1 (.t 107), none⟩ ::
    ⟨some 109, .mm false (.t 100) (.t 108), none⟩ ::
    ⟨some 110, .call 42 [(.t 96), (.t 97), (.t 109)], none⟩ ::
    ⟨some 10, .mv 0 (.t 110), none⟩ ::
    []))
  (c42_4)
def c42_6 : HCode :=
  .seq (.seq (.region (some [0, 1, 3, 7, 15, 0, 63, 127, 255, 511, 1023, 2047, 4095, 8191, 1023, 32767, 65535, 1023, 132095, 394239, 918527, 1023, 4064255, 8258559, 16647167, 33554431, 67108863]) (⟨some 69, .mv 0 (.t 0), none⟩ ::
    ⟨some 70, .nilck (.t 69), none⟩ ::
    ⟨some 71, .faddr 0 (.t 70), none⟩ ::
    ⟨some 72, .faddr 1 (.t 71), none⟩ ::
    ⟨some 73, .load false 1 (.t 72), none⟩ ::
    ⟨some 74, .mv 0 (.t 8), none⟩ ::
    ⟨some 75, .iaddr 1 (.t 73) (.t 74), none⟩ ::
    ⟨some 76, .load false 1 (.t 75), none⟩ ::
    ⟨some 77, .bin .eql (.t 76) (.c (.int .i64 0)), none⟩ ::
    ⟨some 78, .mv 0 (.t 77), none⟩ ::
    ⟨some 79, .mv 0 (.t 0), some (9, false)⟩ ::
    ⟨some 80, .nilck (.t 79), some (9, false)⟩ ::
    ⟨some 81, .faddr 3 (.t 80), some (9, false)⟩ ::
    ⟨some 82, .load false 1 (.t 81), some (9, false)⟩ ::
    ⟨some 83, .mv 0 (.t 9), some (9, false)⟩ ::
    ⟨some 84, .iaddr 1 (.t 82) (.t 83), some (9, false)⟩ ::
    ⟨some 85, .load false 1 (.t 84), some (9, false)⟩ ::
    ⟨some 86, .mv 0 (.t 0), some (9, false)⟩ ::
    ⟨some 87, .nilck (.t 86), some (9, false)⟩ ::
    ⟨some 88, .faddr 3 (.t 87), some (9, false)⟩ ::
    ⟨some 89, .load false 1 (.t 88), some (9, false)⟩ ::
    ⟨some 90, .mv 0 (.t 1), some (9, false)⟩ ::
    ⟨some 91, .iaddr 1 (.t 89) (.t 90), some (9, false)⟩ ::
    ⟨some 92, .load false 1 (.t 91), some (9, false)⟩ ::
    ⟨some 93, .bin .add (.t 92) (.c (.int .i64 1)), some (9, false)⟩ ::
    ⟨some 94, .bin .neq (.t 85) (.t 93), some (9, false)⟩ ::
    ⟨some 95, .pick (.t 78) (.c (.bool true)) (.t 94), none⟩ ::
    []))
  (.cond (.t 95) (.exit 1) (.skip)))
  (c42_5)
def c42_7 : HCode :=
  .seq (.region none (⟨some 61, .mv 0 (.t 0), none⟩ ::
    ⟨some 62, .nilck (.t 61), none⟩ ::
    ⟨some 63, .faddr 0 (.t 62), none⟩ ::
    ⟨some 64, .faddr 0 (.t 63), none⟩ ::
    ⟨some 65, .load false 1 (.t 64), none⟩ ::
    ⟨some 66, .mv 0 (.t 8), none⟩ ::
    ⟨some 67, .iaddr 1 (.t 65) (.t 66), none⟩ ::
    ⟨some 68, .load false 1 (.t 67), none⟩ ::
    ⟨some 9, .mv 0 (.t 68), none⟩ ::
    []))
  (c42_6)
def c42_8 : HCode :=
  .region none (⟨some 35, .mv 0 (.t 0), none⟩ ::
    ⟨some 36, .nilck (.t 35), none⟩ ::
    ⟨some 37, .faddr 4 (.t 36), none⟩ ::
    ⟨some 38, .load false 1 (.t 37), none⟩ ::
    ⟨some 39, .mv 0 (.t 1), none⟩ ::
    ⟨some 40, .iaddr 1 (.t 38) (.t 39), none⟩ ::
    ⟨some 41, .load false 1 (.t 40), none⟩ ::
    ⟨some 42, .bin .add (.t 41) (.c (.int .i64 1)), none⟩ ::
    ⟨some 43, .iaddr 1 (.t 38) (.t 39), none⟩ ::
    ⟨none, .store true 1 (.t 43) (.t 42), none⟩ ::
    [])
def c42_9 : HCode :=
  .seq (.block 1 (.seq (.region (some [0, 1, 3, 7, 15, 0, 63, 127, 0, 256, 768, 1792, 0, 7936, 16128, 32767, 65535, 131071]) (⟨some 44, .mv 0 (.t 0), none⟩ ::
      ⟨some 45, .nilck (.t 44), none⟩ ::
      ⟨some 46, .faddr 0 (.t 45), none⟩ ::
      ⟨some 47, .faddr 2 (.t 46), none⟩ ::
      ⟨some 48, .load false 1 (.t 47), none⟩ ::
      ⟨some 49, .mv 0 (.t 1), none⟩ ::
      ⟨some 50, .iaddr 1 (.t 48) (.t 49), none⟩ ::
      ⟨some 51, .load false 1 (.t 50), none⟩ ::
      ⟨some 52, .mv 0 (.t 0), none⟩ ::
      ⟨some 53, .nilck (.t 52), none⟩ ::
      ⟨some 54, .faddr 4 (.t 53), none⟩ ::
      ⟨some 55, .load false 1 (.t 54), none⟩ ::
      ⟨some 56, .mv 0 (.t 1), none⟩ ::
      ⟨some 57, .iaddr 1 (.t 55) (.t 56), none⟩ ::
      ⟨some 58, .load false 1 (.t 57), none⟩ ::
      ⟨some 59, .iaddr 1 (.t 51) (.t 58), none⟩ ::
      ⟨some 60, .load false 1 (.t 59), none⟩ ::
      ⟨some 8, .mv 0 (.t 60), none⟩ ::
      []))
    (c42_7)))
  (c42_8)
def c42_10 : HCode :=
  .seq (.seq (.region (some [0, 1, 3, 7, 0, 31, 63, 0, 128, 384, 896, 1920, 0, 8064, 16256, 32640, 65535]) (⟨some 18, .mv 0 (.t 0), none⟩ ::
    ⟨some 19, .nilck (.t 18), none⟩ ::
    ⟨some 20, .faddr 4 (.t 19), none⟩ ::
    ⟨some 21, .load false 1 (.t 20), none⟩ ::
    ⟨some 22, .mv 0 (.t 1), none⟩ ::
    ⟨some 23, .iaddr 1 (.t 21) (.t 22), none⟩ ::
    ⟨some 24, .load false 1 (.t 23), none⟩ ::
    ⟨some 25, .mv 0 (.t 0), none⟩ ::
    ⟨some 26, .nilck (.t 25), none⟩ ::
    ⟨some 27, .faddr 0 (.t 26), none⟩ ::
    ⟨some 28, .faddr 2 (.t 27), none⟩ ::
    ⟨some 29, .load false 1 (.t 28), none⟩ ::
    ⟨some 30, .mv 0 (.t 1), none⟩ ::
    ⟨some 31, .iaddr 1 (.t 29) (.t 30), none⟩ ::
    ⟨some 32, .load false 1 (.t 31), none⟩ ::
    ⟨some 33, .len (.t 32), none⟩ ::
    ⟨some 34, .bin .lss (.t 24) (.t 33), none⟩ ::
    []))
  (.cond (.t 34) (.skip) (.exit 0)))
  (c42_9)
def c42_11 : HCode :=
  .seq (.region none (⟨some 123, .mv 0 (.t 7), none⟩ ::
    ⟨some 6, .mv 0 (.t 123), none⟩ ::
    []))
  (.ret)
def c42_12 : HCode :=
  .seq (.region none (⟨some 7, .mv 0 (.c (.int .i64 0)), none⟩ ::
    []))
  (.seq (.block 0 (.loop (c42_10)))
  (c42_11))
def c42_13 : HCode :=
  .seq (.seq (.region none (⟨some 11, .mv 0 (.t 1), none⟩ ::
    ⟨some 12, .mv 0 (.t 0), none⟩ ::
    ⟨some 13, .nilck (.t 12), none⟩ ::
    ⟨some 14, .faddr 6 (.t 13), none⟩ ::
    ⟨some 15, .load false 1 (.t 14), none⟩ ::
    ⟨some 16, .bin .eql (.t 11) (.t 15), none⟩ ::
    []))
  (.cond (.t 16) (c42_1) (.skip)))
  (c42_12)
def c42 : HCode :=
  .seq (.region none (⟨some 6, .mv 0 (.c (.int .i64 0)), none⟩ ::
    []))
  (c42_13)
theorem fc42 : funCode Try.prog 42 = some (c42, [6], 124) := by kernel_rfl

def c43_1 : HCode :=
  .region none (⟨some 55, .mv 1 (.t 8), none⟩ ::
    ⟨some 56, .mv 0 (.t 11), none⟩ ::
    ⟨some 57, .bsl 1 1 [(.t 56)], none⟩ ::
    ⟨some 58, .app true 1 8 (.t 55) (.t 57), none⟩ ::
    ⟨some 8, .mv 1 (.t 58), none⟩ ::
    [])
def c43_2 : HCode :=
  .seq (.region none (⟨some 47, .mv 1 (.t 7), none⟩ ::
    ⟨some 48, .mv 0 (.t 11), none⟩ ::
    ⟨some 49, .mv 1 (.t 7), none⟩ ::
    ⟨some 50, .mv 0 (.t 9), none⟩ ::
    ⟨some 51, .iaddr 1 (.t 49) (.t 50), none⟩ ::
    ⟨some 52, .load false 1 (.t 51), none⟩ ::
    ⟨some 53, .bin .add (.t 52) (.c (.int .i64 1)), none⟩ ::
    ⟨some 54, .iaddr 1 (.t 47) (.t 48), none⟩ ::
    ⟨none, .store true 1 (.t 54) (.t 53), none⟩ ::
    []))
  (c43_1)
def c43_3 : HCode :=
  .seq (.region none (⟨some 42, .mv 1 (.t 7), none⟩ ::
    ⟨some 43, .mv 0 (.t 11), none⟩ ::
    ⟨some 44, .iaddr 1 (.t 42) (.t 43), none⟩ ::
    ⟨some 45, .load false 1 (.t 44), none⟩ ::
    ⟨some 46, .bin .lss (.t 45) (.c (.int .i64 0)), none⟩ ::
    []))
  (.cond (.t 46) (c43_2) (.skip))
def c43_4 : HCode :=
  .region none (⟨some 59, .bin .add (.t 38) (.c (.int .i64 1)), none⟩ ::
    ⟨some 38, .mv 0 (.t 59), none⟩ ::
    [])
def c43_5 : HCode :=
  .seq (.block 3 (.seq (.region none (⟨some 40, .iaddr 1 (.t 36) (.t 38), none⟩ ::
      ⟨some 41, .load false 1 (.t 40), none⟩ ::
      ⟨some 11, .mv 0 (.t 41), none⟩ ::
      []))
    (c43_3)))
  (c43_4)
def c43_6 : HCode :=
  .seq (.region none (⟨some 39, .bin .lss (.t 38) (.t 37), none⟩ ::
    []))
  (.seq (.cond (.t 39) (.skip) (.exit 2))
  (c43_5))
def c43_7 : HCode :=
  .seq (.region none (⟨some 33, .mv 1 (.t 0), none⟩ ::
    ⟨some 34, .mv 0 (.t 9), none⟩ ::
    ⟨some 35, .iaddr 1 (.t 33) (.t 34), none⟩ ::
    ⟨some 36, .load false 1 (.t 35), none⟩ ::
    ⟨some 37, .len (.t 36), none⟩ ::
    ⟨some 38, .mv 0 (.c (.int .i64 0)), none⟩ ::
    []))
  (.block 2 (.loop (c43_6)))
def c43_8 : HCode :=
  .seq (.seq (.region none (⟨some 29, .mv 1 (.t 1), none⟩ ::
    ⟨some 30, .mv 0 (.t 9), none⟩ ::
    ⟨some 31, .iaddr 1 (.t 29) (.t 30), none⟩ ::
    ⟨some 32, .load false 1 (.t 31), none⟩ ::
    []))
  (.cond (.t 32) (.exit 1) (.skip)))
  (c43_7)
def c43_9 : HCode :=
  .seq (.region none (⟨some 27, .mv 1 (.t 8), none⟩ ::
    ⟨some 28, .slc 1 (.t 27) (some (.c (.int .i64 1))) none, none⟩ ::
    ⟨some 8, .mv 1 (.t 28), none⟩ ::
    []))
  (c43_8)
def c43_10 : HCode :=
  .block 1 (.seq (.region none (⟨some 24, .mv 1 (.t 8), none⟩ ::
      ⟨some 25, .iaddr 1 (.t 24) (.c (.int .i64 0)), none⟩ ::
      ⟨some 26, .load false 1 (.t 25), none⟩ ::
      ⟨some 9, .mv 0 (.t 26), none⟩ ::
      []))
    (c43_9))
def c43_11 : HCode :=
  .seq (.seq (.region none (⟨some 21, .mv 1 (.t 8), none⟩ ::
    ⟨some 22, .len (.t 21), none⟩ ::
    ⟨some 23, .bin .gtr (.t 22) (.c (.int .i64 0)), none⟩ ::
    []))
  (.cond (.t 23) (.skip) (.exit 0)))
  (c43_10)
def c43_12 : HCode :=
  .seq (.region none (⟨some 60, .mv 1 (.t 7), none⟩ ::
    ⟨some 6, .mv 1 (.t 60), none⟩ ::
    []))
  (.ret)
def c43_13 : HCode :=
  .seq (.region none (⟨some 19, .mv 0 (.t 2), none⟩ ::
    ⟨some 20, .bsl 1 1 [(.t 19)], none⟩ ::
    ⟨some 8, .mv 1 (.t 20), none⟩ ::
    []))
  (.seq (.block 0 (.loop (c43_11)))
  (c43_12))
def c43_14 : HCode :=
  .seq (.region none (⟨some 16, .mv 1 (.t 7), none⟩ ::
    ⟨some 17, .mv 0 (.t 2), none⟩ ::
    ⟨some 18, .iaddr 1 (.t 16) (.t 17), none⟩ ::
    ⟨none, .store true 1 (.t 18) (.c (.int .i64 0)), none⟩ ::
    []))
  (c43_13)
def c43_15 : HCode :=
  .seq (.region none (⟨some 12, .bsl 1 1 [(.c (.int .i64 (-1)))], none⟩ ::
    ⟨some 13, .mv 1 (.t 0), none⟩ ::
    ⟨some 14, .len (.t 13), none⟩ ::
    ⟨some 15, .call 45 [(.t 12), (.t 14)], none⟩ ::
    ⟨some 7, .mv 1 (.t 15), none⟩ ::
    []))
  (c43_14)
def c43 : HCode :=
  .seq (.region none (⟨some 6, .mv 1 (.c (.nils)), none⟩ ::
    []))
  (c43_15)
theorem fc43 : funCode Try.prog 43 = some (c43, [6], 61) := by kernel_rfl

def c44_1 : HCode :=
  .region none (⟨some 16, .mv 0 (.t 0), none⟩ ::
    ⟨some 17, .nilck (.t 16), none⟩ ::
    ⟨some 18, .faddr 1 (.t 17), none⟩ ::
    ⟨some 19, .load false 1 (.t 18), none⟩ ::
    ⟨some 20, .mv 0 (.t 1), none⟩ ::
    ⟨some 21, .bin .xor (.t 20) (.c (.int .i64 1)), none⟩ ::
    ⟨some 22, .iaddr 1 (.t 19) (.t 21), none⟩ ::
    ⟨some 23, .load false 1 (.t 22), none⟩ ::
    ⟨some 24, .mv 0 (.t 2), none⟩ ::
    ⟨some 25, .bin .add (.t 23) (.t 24), none⟩ ::
    ⟨some 26, .iaddr 1 (.t 19) (.t 21), none⟩ ::
    ⟨none, .store true 1 (.t 26) (.t 25), none⟩ ::
    [])
def c44 : HCode :=
  .seq (.region none (⟨some 6, .mv 0 (.t 0), none⟩ ::
    ⟨some 7, .nilck (.t 6), none⟩ ::
    ⟨some 8, .faddr 1 (.t 7), none⟩ ::
    ⟨some 9, .load false 1 (.t 8), none⟩ ::
    ⟨some 10, .mv 0 (.t 1), none⟩ ::
    ⟨some 11, .iaddr 1 (.t 9) (.t 10), none⟩ ::
    ⟨some 12, .load false 1 (.t 11), none⟩ ::
    ⟨some 13, .mv 0 (.t 2), none⟩ ::
    ⟨some 14, .bin .sub (.t 12) (.t 13), none⟩ ::
    ⟨some 15, .iaddr 1 (.t 9) (.t 10), none⟩ ::
    ⟨none, .store true 1 (.t 15) (.t 14), none⟩ ::
    []))
  (c44_1)
theorem fc44 : funCode Try.prog 44 = some (c44, [], 27) := by kernel_rfl

def c45_1 : HCode :=
  .region none (⟨some 11, .bad, none⟩ ::
    ⟨none, .bad, none⟩ ::
    [])
def c45_2 : HCode :=
  .region none (⟨some 27, .bad, none⟩ ::
    ⟨none, .bad, none⟩ ::
    [])
def c45_3 : HCode :=
  .block 1 (.region (some [0, 0, 0, 6, 0, 0, 48, 126, 255, 511]) (⟨some 38, .mv 0 (.t 8), none⟩ ::
      ⟨some 39, .mv 1 (.t 7), none⟩ ::
      ⟨some 40, .mv 0 (.t 8), none⟩ ::
      ⟨some 41, .slc 1 (.t 39) (some (.t 40)) none, none⟩ ::
      ⟨some 42, .mv 1 (.t 7), none⟩ ::
      ⟨some 43, .mv 0 (.t 8), none⟩ ::
      ⟨some 44, .slc 1 (.t 42) none (some (.t 43)), none⟩ ::
      ⟨some 45, .cpy (.t 41) (.t 44), none⟩ ::
      ⟨some 46, .bin .add (.t 38) (.t 45), none⟩ ::
      ⟨some 8, .mv 0 (.t 46), none⟩ ::
      []))
def c45_4 : HCode :=
  .seq (.seq (.region none (⟨some 34, .mv 0 (.t 8), none⟩ ::
    ⟨some 35, .mv 1 (.t 7), none⟩ ::
    ⟨some 36, .len (.t 35), none⟩ ::
    ⟨some 37, .bin .lss (.t 34) (.t 36), none⟩ ::
    []))
  (.cond (.t 37) (.skip) (.exit 0)))
  (c45_3)
def c45_5 : HCode :=
  .seq (.region none (⟨some 47, .mv 1 (.t 7), none⟩ ::
    ⟨some 4, .mv 1 (.t 47), none⟩ ::
    []))
  (.ret)
def c45_6 : HCode :=
  .seq (.region none (⟨some 31, .mv 1 (.t 7), none⟩ ::
    ⟨some 32, .mv 1 (.t 0), none⟩ ::
    ⟨some 33, .cpy (.t 31) (.t 32), none⟩ ::
    ⟨some 8, .mv 0 (.t 33), none⟩ ::
    []))
  (.seq (.block 0 (.loop (c45_4)))
  (c45_5))
def c45_7 : HCode :=
  .seq (.region none (⟨some 28, .mv 0 (.t 6), none⟩ ::
    ⟨some 29, .conv .i64 (.t 28), none⟩ ::
    ⟨some 30, .mksl 1 8 [.int .i64 0] (.t 29), none⟩ ::
    ⟨some 7, .mv 1 (.t 30), none⟩ ::
    []))
  (c45_6)
def c45_8 : HCode :=
  .seq (.seq (.region none (⟨some 21, .mv 0 (.t 5), none⟩ ::
    ⟨some 22, .bin .gtr (.t 21) (.c (.int .u64 0)), none⟩ ::
    ⟨some 23, .mv 0 (.t 22), none⟩ ::
    ⟨some 24, .mv 0 (.t 6), some (2, false)⟩ ::
    ⟨some 25, .bin .gtr (.t 24) (.c (.int .u64 9223372036854775807)), some (2, false)⟩ ::
    ⟨some 26, .pick (.t 23) (.c (.bool true)) (.t 25), none⟩ ::
    []))
  (.cond (.t 26) (c45_2) (.skip)))
  (c45_7)
def c45_9 : HCode :=
  .seq (.region none (⟨some 13, .mv 1 (.t 0), none⟩ ::
    ⟨some 14, .len (.t 13), none⟩ ::
    ⟨some 15, .conv .u64 (.t 14), none⟩ ::
    ⟨some 16, .mv 0 (.t 1), none⟩ ::
    ⟨some 17, .conv .u64 (.t 16), none⟩ ::
    ⟨some 18, .call 46 [(.t 15), (.t 17)], none⟩ ::
    ⟨some 12, .mv 0 (.t 18), none⟩ ::
    ⟨some 19, .ext (.t 12) 0, none⟩ ::
    ⟨some 20, .ext (.t 12) 1, none⟩ ::
    ⟨some 5, .mv 0 (.t 19), none⟩ ::
    ⟨some 6, .mv 0 (.t 20), none⟩ ::
    []))
  (c45_8)
def c45_10 : HCode :=
  .seq (.seq (.region none (⟨some 9, .mv 0 (.t 1), none⟩ ::
    ⟨some 10, .bin .lss (.t 9) (.c (.int .i64 0)), none⟩ ::
    []))
  (.cond (.t 10) (c45_1) (.skip)))
  (c45_9)
def c45 : HCode :=
  .seq (.region none (⟨some 4, .mv 1 (.c (.nils)), none⟩ ::
    []))
  (c45_10)
theorem fc45 : funCode Try.prog 45 = some (c45, [4], 48) := by kernel_rfl

def c46_1 : HCode :=
  .seq (.region none (⟨some 18, .mv 0 (.t 6), none⟩ ::
    ⟨some 19, .conv .u64 (.t 18), none⟩ ::
    ⟨some 20, .mv 0 (.t 7), none⟩ ::
    ⟨some 21, .conv .u64 (.t 20), none⟩ ::
    ⟨some 4, .mv 0 (.t 19), none⟩ ::
    ⟨some 5, .mv 0 (.t 21), none⟩ ::
    []))
  (.ret)
def c46_2 : HCode :=
  .seq (.region none (⟨some 11, .mv 0 (.t 0), none⟩ ::
    ⟨some 12, .conv .u32 (.t 11), none⟩ ::
    ⟨some 13, .mv 0 (.t 1), none⟩ ::
    ⟨some 14, .conv .u32 (.t 13), none⟩ ::
    ⟨some 15, .call 47 [(.t 12), (.t 14)], none⟩ ::
    ⟨some 10, .mv 0 (.t 15), none⟩ ::
    ⟨some 16, .ext (.t 10) 0, none⟩ ::
    ⟨some 17, .ext (.t 10) 1, none⟩ ::
    ⟨some 6, .mv 0 (.t 16), none⟩ ::
    ⟨some 7, .mv 0 (.t 17), none⟩ ::
    []))
  (c46_1)
def c46_3 : HCode :=
  .seq (.region none (⟨some 28, .mv 0 (.t 8), none⟩ ::
    ⟨some 29, .mv 0 (.t 9), none⟩ ::
    ⟨some 4, .mv 0 (.t 28), none⟩ ::
    ⟨some 5, .mv 0 (.t 29), none⟩ ::
    []))
  (.ret)
def c46_4 : HCode :=
  .seq (.region none (⟨some 23, .mv 0 (.t 0), none⟩ ::
    ⟨some 24, .mv 0 (.t 1), none⟩ ::
    ⟨some 25, .call 48 [(.t 23), (.t 24)], none⟩ ::
    ⟨some 22, .mv 0 (.t 25), none⟩ ::
    ⟨some 26, .ext (.t 22) 0, none⟩ ::
    ⟨some 27, .ext (.t 22) 1, none⟩ ::
    ⟨some 8, .mv 0 (.t 26), none⟩ ::
    ⟨some 9, .mv 0 (.t 27), none⟩ ::
    []))
  (c46_3)
def c46 : HCode :=
  .seq (.region none (⟨some 4, .mv 0 (.c (.int .u64 0)), none⟩ ::
    ⟨some 5, .mv 0 (.c (.int .u64 0)), none⟩ ::
    []))
  (.seq (.cond (.c (.bool false)) (c46_2) (.skip))
  (c46_4))
theorem fc46 : funCode Try.prog 46 = some (c46, [4, 5], 30) := by kernel_rfl

def c47_1 : HCode :=
  .seq (.region none (⟨some 12, .mv 0 (.t 6), none⟩ ::
    ⟨some 13, .bin .shr (.t 12) (.c (.int .u64 32)), none⟩ ::
    ⟨some 14, .conv .u32 (.t 13), none⟩ ::
    ⟨some 15, .mv 0 (.t 6), none⟩ ::
    ⟨some 16, .conv .u32 (.t 15), none⟩ ::
    ⟨some 4, .mv 0 (.t 14), none⟩ ::
    ⟨some 5, .mv 0 (.t 16), none⟩ ::
    []))
  (.ret)
def c47_2 : HCode :=
  .seq (.region none (⟨some 7, .mv 0 (.t 0), none⟩ ::
    ⟨some 8, .conv .u64 (.t 7), none⟩ ::
    ⟨some 9, .mv 0 (.t 1), none⟩ ::
    ⟨some 10, .conv .u64 (.t 9), none⟩ ::
    ⟨some 11, .bin .mul (.t 8) (.t 10), none⟩ ::
    ⟨some 6, .mv 0 (.t 11), none⟩ ::
    []))
  (c47_1)
def c47 : HCode :=
  .seq (.region none (⟨some 4, .mv 0 (.c (.int .u32 0)), none⟩ ::
    ⟨some 5, .mv 0 (.c (.int .u32 0)), none⟩ ::
    []))
  (c47_2)
theorem fc47 : funCode Try.prog 47 = some (c47, [4, 5], 17) := by kernel_rfl

def c48_1 : HCode :=
  .seq (.region none (⟨some 48, .mv 0 (.t 0), none⟩ ::
    ⟨some 49, .mv 0 (.t 1), none⟩ ::
    ⟨some 50, .bin .mul (.t 48) (.t 49), none⟩ ::
    ⟨some 5, .mv 0 (.t 50), none⟩ ::
    []))
  (.ret)
def c48_2 : HCode :=
  .seq (.region none (⟨some 40, .mv 0 (.t 7), none⟩ ::
    ⟨some 41, .mv 0 (.t 9), none⟩ ::
    ⟨some 42, .bin .mul (.t 40) (.t 41), none⟩ ::
    ⟨some 43, .mv 0 (.t 13), none⟩ ::
    ⟨some 44, .bin .add (.t 42) (.t 43), none⟩ ::
    ⟨some 45, .mv 0 (.t 12), none⟩ ::
    ⟨some 46, .bin .shr (.t 45) (.c (.int .u64 32)), none⟩ ::
    ⟨some 47, .bin .add (.t 44) (.t 46), none⟩ ::
    ⟨some 4, .mv 0 (.t 47), none⟩ ::
    []))
  (c48_1)
def c48_3 : HCode :=
  .seq (.region none (⟨some 35, .mv 0 (.t 12), none⟩ ::
    ⟨some 36, .mv 0 (.t 6), none⟩ ::
    ⟨some 37, .mv 0 (.t 9), none⟩ ::
    ⟨some 38, .bin .mul (.t 36) (.t 37), none⟩ ::
    ⟨some 39, .bin .add (.t 35) (.t 38), none⟩ ::
    ⟨some 12, .mv 0 (.t 39), none⟩ ::
    []))
  (c48_2)
def c48_4 : HCode :=
  .seq (.region none (⟨some 33, .mv 0 (.t 11), none⟩ ::
    ⟨some 34, .bin .shr (.t 33) (.c (.int .u64 32)), none⟩ ::
    ⟨some 13, .mv 0 (.t 34), none⟩ ::
    []))
  (c48_3)
def c48_5 : HCode :=
  .seq (.region none (⟨some 31, .mv 0 (.t 11), none⟩ ::
    ⟨some 32, .bin .and (.t 31) (.c (.int .u64 4294967295)), none⟩ ::
    ⟨some 12, .mv 0 (.t 32), none⟩ ::
    []))
  (c48_4)
def c48_6 : HCode :=
  .seq (.region none (⟨some 25, .mv 0 (.t 7), none⟩ ::
    ⟨some 26, .mv 0 (.t 8), none⟩ ::
    ⟨some 27, .bin .mul (.t 25) (.t 26), none⟩ ::
    ⟨some 28, .mv 0 (.t 10), none⟩ ::
    ⟨some 29, .bin .shr (.t 28) (.c (.int .u64 32)), none⟩ ::
    ⟨some 30, .bin .add (.t 27) (.t 29), none⟩ ::
    ⟨some 11, .mv 0 (.t 30), none⟩ ::
    []))
  (c48_5)
def c48_7 : HCode :=
  .seq (.region none (⟨some 22, .mv 0 (.t 6), none⟩ ::
    ⟨some 23, .mv 0 (.t 8), none⟩ ::
    ⟨some 24, .bin .mul (.t 22) (.t 23), none⟩ ::
    ⟨some 10, .mv 0 (.t 24), none⟩ ::
    []))
  (c48_6)
def c48_8 : HCode :=
  .seq (.region none (⟨some 20, .mv 0 (.t 1), none⟩ ::
    ⟨some 21, .bin .shr (.t 20) (.c (.int .u64 32)), none⟩ ::
    ⟨some 9, .mv 0 (.t 21), none⟩ ::
    []))
  (c48_7)
def c48_9 : HCode :=
  .seq (.region none (⟨some 18, .mv 0 (.t 1), none⟩ ::
    ⟨some 19, .bin .and (.t 18) (.c (.int .u64 4294967295)), none⟩ ::
    ⟨some 8, .mv 0 (.t 19), none⟩ ::
    []))
  (c48_8)
def c48_10 : HCode :=
  .seq (.region none (⟨some 16, .mv 0 (.t 0), none⟩ ::
    ⟨some 17, .bin .shr (.t 16) (.c (.int .u64 32)), none⟩ ::
    ⟨some 7, .mv 0 (.t 17), none⟩ ::
    []))
  (c48_9)
def c48_11 : HCode :=
  .seq (.region none (⟨some 14, .mv 0 (.t 0), none⟩ ::
    ⟨some 15, .bin .and (.t 14) (.c (.int .u64 4294967295)), none⟩ ::
    ⟨some 6, .mv 0 (.t 15), none⟩ ::
    []))
  (c48_10)
def c48 : HCode :=
  .seq (.region none (⟨some 4, .mv 0 (.c (.int .u64 0)), none⟩ ::
    ⟨some 5, .mv 0 (.c (.int .u64 0)), none⟩ ::
    []))
  (c48_11)
theorem fc48 : funCode Try.prog 48 = some (c48, [4, 5], 51) := by kernel_rfl

end Go.Proofs.Ytbddkmhpfbmcmaa
