/-
  OWN WORK, written by my own program. The functions that the claim reaches, in the value language; each is checked against the translation.
-/
import Derived.Test.YtkhbiknjkffpjaaHl4
import Derived.Test.YtkhbiknjkffpjaaProg
namespace Go.Proofs.Ytkhbiknjkffpjaa
open Go.HL
set_option maxRecDepth 100000
set_option linter.unusedVariables false
def c2 : HCode :=
  .region none (⟨some 0, .call 1 [], none⟩ ::
    [])
def c11_1 : HCode :=
  .seq (.region none (⟨some 4, .mv 1 (.t 0), none⟩ ::
    ⟨some 5, .mv 1 (.t 0), none⟩ ::
    ⟨some 6, .call 37 [(.t 5), (.c (.int .i64 0))], none⟩ ::
    ⟨some 7, .call 36 [(.t 6), (.c (.int .i64 10))], none⟩ ::
    ⟨some 8, .call 31 [(.t 4), (.t 7)], none⟩ ::
    ⟨some 9, .ext (.t 8) 0, none⟩ ::
    ⟨some 10, .ext (.t 8) 1, none⟩ ::
    ⟨some 2, .mv 1 (.t 9), none⟩ ::
    ⟨some 3, .mv 1 (.t 10), none⟩ ::
    []))
  (.ret)
def c11 : HCode :=
  .seq (.region none (⟨some 2, .mv 1 (.c (.nils)), none⟩ ::
    ⟨some 3, .mv 1 (.c (.nils)), none⟩ ::
    []))
  (c11_1)
theorem fc11 : funCode Try.prog 11 = some (c11, [2, 3], 11) := by kernel_rfl

def c13_1 : HCode :=
  .seq (.region none (⟨some 4, .mv 0 (.c (.bool false)), none⟩ ::
    []))
  (.ret)
def c13_2 : HCode :=
  .seq (.region none (⟨some 4, .mv 0 (.c (.bool false)), none⟩ ::
    []))
  (.ret)
def c13_3 : HCode :=
  .seq (.region none (⟨some 4, .mv 0 (.c (.bool false)), none⟩ ::
    []))
  (.ret)
def c13_4 : HCode :=
  .seq (.region none (⟨some 45, .mv 0 (.t 8), none⟩ ::
    ⟨some 46, .bin .lss (.t 45) (.c (.int .i64 0)), none⟩ ::
    ⟨some 47, .mv 0 (.t 46), none⟩ ::
    ⟨some 48, .mv 0 (.t 8), some (2, false)⟩ ::
    ⟨some 49, .mv 1 (.t 1), some (2, false)⟩ ::
    ⟨some 50, .len (.t 49), some (2, false)⟩ ::
    ⟨some 51, .bin .geq (.t 48) (.t 50), some (2, false)⟩ ::
    ⟨some 52, .pick (.t 47) (.c (.bool true)) (.t 51), none⟩ ::
    ⟨some 53, .mv 0 (.t 52), none⟩ ::
    ⟨some 54, .mv 0 (.t 7), some (8, false)⟩ ::
    ⟨some 55, .bin .gtr (.t 54) (.c (.int .i64 0)), some (8, false)⟩ ::
    ⟨some 56, .mv 0 (.t 55), some (8, false)⟩ ::
    ⟨some 57, .mv 0 (.t 8), some (11, true)⟩ ::
    ⟨some 58, .mv 1 (.t 6), some (11, true)⟩ ::
    ⟨some 59, .mv 0 (.t 7), some (11, true)⟩ ::
    ⟨some 60, .bin .sub (.t 59) (.c (.int .i64 1)), some (11, true)⟩ ::
    ⟨some 61, .iaddr 1 (.t 58) (.t 60), some (11, true)⟩ ::
    ⟨some 62, .load false 1 (.t 61), some (11, true)⟩ ::
    ⟨some 63, .bin .leq (.t 57) (.t 62), some (11, true)⟩ ::
    ⟨some 64, .pick (.t 56) (.t 63) (.c (.bool false)), some (8, false)⟩ ::
    ⟨some 65, .pick (.t 53) (.c (.bool true)) (.t 64), none⟩ ::
    []))
  (.cond (.t 65) (c13_3) (.skip))
def c13_5 : HCode :=
  .region none (⟨some 66, .bin .add (.t 40) (.c (.int .i64 1)), none⟩ ::
    ⟨some 40, .mv 0 (.t 66), none⟩ ::
    [])
def c13_6 : HCode :=
  .seq (.block 3 (.seq (.region none (⟨some 42, .mv 0 (.t 40), none⟩ ::
      ⟨some 43, .iaddr 1 (.t 38) (.t 40), none⟩ ::
      ⟨some 44, .load false 1 (.t 43), none⟩ ::
      ⟨some 7, .mv 0 (.t 42), none⟩ ::
      ⟨some 8, .mv 0 (.t 44), none⟩ ::
      []))
    (c13_4)))
  (c13_5)
def c13_7 : HCode :=
  .seq (.region none (⟨some 41, .bin .lss (.t 40) (.t 39), none⟩ ::
    []))
  (.seq (.cond (.t 41) (.skip) (.exit 2))
  (c13_6))
def c13_8 : HCode :=
  .seq (.region none (⟨some 38, .mv 1 (.t 6), none⟩ ::
    ⟨some 39, .len (.t 38), none⟩ ::
    ⟨some 40, .mv 0 (.c (.int .i64 0)), none⟩ ::
    []))
  (.block 2 (.loop (c13_7)))
def c13_9 : HCode :=
  .seq (.seq (.region none (⟨some 26, .mv 1 (.t 0), none⟩ ::
    ⟨some 27, .mv 0 (.t 5), none⟩ ::
    ⟨some 28, .iaddr 1 (.t 26) (.t 27), none⟩ ::
    ⟨some 29, .load false 1 (.t 28), none⟩ ::
    ⟨some 30, .bin .lss (.t 29) (.c (.int .i64 (-2147483648))), none⟩ ::
    ⟨some 31, .mv 0 (.t 30), none⟩ ::
    ⟨some 32, .mv 1 (.t 0), some (5, false)⟩ ::
    ⟨some 33, .mv 0 (.t 5), some (5, false)⟩ ::
    ⟨some 34, .iaddr 1 (.t 32) (.t 33), some (5, false)⟩ ::
    ⟨some 35, .load false 1 (.t 34), some (5, false)⟩ ::
    ⟨some 36, .bin .gtr (.t 35) (.c (.int .i64 2147483648)), some (5, false)⟩ ::
    ⟨some 37, .pick (.t 31) (.c (.bool true)) (.t 36), none⟩ ::
    []))
  (.cond (.t 37) (c13_2) (.skip)))
  (c13_8)
def c13_10 : HCode :=
  .region none (⟨some 67, .bin .add (.t 21) (.c (.int .i64 1)), none⟩ ::
    ⟨some 21, .mv 0 (.t 67), none⟩ ::
    [])
def c13_11 : HCode :=
  .seq (.block 1 (.seq (.region none (⟨some 23, .mv 0 (.t 21), none⟩ ::
      ⟨some 24, .iaddr 1 (.t 19) (.t 21), none⟩ ::
      ⟨some 25, .load false 1 (.t 24), none⟩ ::
      ⟨some 5, .mv 0 (.t 23), none⟩ ::
      ⟨some 6, .mv 1 (.t 25), none⟩ ::
      []))
    (c13_9)))
  (c13_10)
def c13_12 : HCode :=
  .seq (.region none (⟨some 22, .bin .lss (.t 21) (.t 20), none⟩ ::
    []))
  (.seq (.cond (.t 22) (.skip) (.exit 0))
  (c13_11))
def c13_13 : HCode :=
  .seq (.region none (⟨some 4, .mv 0 (.c (.bool true)), none⟩ ::
    []))
  (.ret)
def c13_14 : HCode :=
  .seq (.seq (.region none (⟨some 19, .mv 1 (.t 1), none⟩ ::
    ⟨some 20, .len (.t 19), none⟩ ::
    ⟨some 21, .mv 0 (.c (.int .i64 0)), none⟩ ::
    []))
  (.block 0 (.loop (c13_12))))
  (c13_13)
def c13_15 : HCode :=
  .seq (.seq (.region none (⟨some 9, .mv 1 (.t 0), none⟩ ::
    ⟨some 10, .len (.t 9), none⟩ ::
    ⟨some 11, .mv 1 (.t 1), none⟩ ::
    ⟨some 12, .len (.t 11), none⟩ ::
    ⟨some 13, .bin .neq (.t 10) (.t 12), none⟩ ::
    ⟨some 14, .mv 0 (.t 13), none⟩ ::
    ⟨some 15, .mv 1 (.t 1), some (5, false)⟩ ::
    ⟨some 16, .len (.t 15), some (5, false)⟩ ::
    ⟨some 17, .bin .gtr (.t 16) (.c (.int .i64 256)), some (5, false)⟩ ::
    ⟨some 18, .pick (.t 14) (.c (.bool true)) (.t 17), none⟩ ::
    []))
  (.cond (.t 18) (c13_1) (.skip)))
  (c13_14)
def c13 : HCode :=
  .seq (.region none (⟨some 4, .mv 0 (.c (.bool false)), none⟩ ::
    []))
  (c13_15)
theorem fc13 : funCode Try.prog 13 = some (c13, [4], 68) := by kernel_rfl

def c14_1 : HCode :=
  .seq (.region none (⟨some 4, .mv 0 (.c (.bool false)), none⟩ ::
    []))
  (.ret)
def c14_2 : HCode :=
  .seq (.region none (⟨some 4, .mv 0 (.c (.bool false)), none⟩ ::
    []))
  (.ret)
def c14_3 : HCode :=
  .region none (⟨some 20, .mv 0 (.t 5), none⟩ ::
    ⟨some 21, .bin .add (.t 20) (.c (.int .i64 1)), none⟩ ::
    ⟨some 5, .mv 0 (.t 21), none⟩ ::
    [])
def c14_4 : HCode :=
  .seq (.block 1 (.seq (.region none (⟨some 22, .mv 1 (.t 0), none⟩ ::
      ⟨some 23, .mv 0 (.t 5), none⟩ ::
      ⟨some 24, .iaddr 1 (.t 22) (.t 23), none⟩ ::
      ⟨some 25, .load false 1 (.t 24), none⟩ ::
      ⟨some 26, .bin .lss (.t 25) (.c (.int .i64 (-2147483648))), none⟩ ::
      ⟨some 27, .mv 0 (.t 26), none⟩ ::
      ⟨some 28, .mv 1 (.t 0), some (5, false)⟩ ::
      ⟨some 29, .mv 0 (.t 5), some (5, false)⟩ ::
      ⟨some 30, .iaddr 1 (.t 28) (.t 29), some (5, false)⟩ ::
      ⟨some 31, .load false 1 (.t 30), some (5, false)⟩ ::
      ⟨some 32, .bin .gtr (.t 31) (.c (.int .i64 2147483648)), some (5, false)⟩ ::
      ⟨some 33, .pick (.t 27) (.c (.bool true)) (.t 32), none⟩ ::
      []))
    (.cond (.t 33) (c14_2) (.skip))))
  (c14_3)
def c14_5 : HCode :=
  .seq (.seq (.region none (⟨some 16, .mv 0 (.t 5), none⟩ ::
    ⟨some 17, .mv 1 (.t 0), none⟩ ::
    ⟨some 18, .len (.t 17), none⟩ ::
    ⟨some 19, .bin .lss (.t 16) (.t 18), none⟩ ::
    []))
  (.cond (.t 19) (.skip) (.exit 0)))
  (c14_4)
def c14_6 : HCode :=
  .seq (.region none (⟨some 34, .mv 1 (.t 1), none⟩ ::
    ⟨some 35, .mv 1 (.t 1), none⟩ ::
    ⟨some 36, .len (.t 35), none⟩ ::
    ⟨some 37, .mksl 1 1 [.bool false] (.t 36), none⟩ ::
    ⟨some 38, .call 39 [(.t 34), (.t 37)], none⟩ ::
    ⟨some 4, .mv 0 (.t 38), none⟩ ::
    []))
  (.ret)
def c14_7 : HCode :=
  .seq (.seq (.region none (⟨some 5, .mv 0 (.c (.int .i64 0)), none⟩ ::
    []))
  (.block 0 (.loop (c14_5))))
  (c14_6)
def c14_8 : HCode :=
  .seq (.seq (.region none (⟨some 6, .mv 1 (.t 0), none⟩ ::
    ⟨some 7, .len (.t 6), none⟩ ::
    ⟨some 8, .mv 1 (.t 1), none⟩ ::
    ⟨some 9, .len (.t 8), none⟩ ::
    ⟨some 10, .bin .neq (.t 7) (.t 9), none⟩ ::
    ⟨some 11, .mv 0 (.t 10), none⟩ ::
    ⟨some 12, .mv 1 (.t 1), some (5, false)⟩ ::
    ⟨some 13, .len (.t 12), some (5, false)⟩ ::
    ⟨some 14, .bin .gtr (.t 13) (.c (.int .i64 256)), some (5, false)⟩ ::
    ⟨some 15, .pick (.t 11) (.c (.bool true)) (.t 14), none⟩ ::
    []))
  (.cond (.t 15) (c14_1) (.skip)))
  (c14_7)
def c14 : HCode :=
  .seq (.region none (⟨some 4, .mv 0 (.c (.bool false)), none⟩ ::
    []))
  (c14_8)
theorem fc14 : funCode Try.prog 14 = some (c14, [4], 39) := by kernel_rfl

def c15_1 : HCode :=
  .seq (.region none (⟨some 4, .mv 0 (.c (.bool false)), none⟩ ::
    []))
  (.ret)
def c15_2 : HCode :=
  .seq (.region none (⟨some 4, .mv 0 (.c (.bool false)), none⟩ ::
    []))
  (.ret)
def c15_3 : HCode :=
  .seq (.region none (⟨some 18, .mv 0 (.t 6), none⟩ ::
    ⟨some 19, .mv 0 (.t 18), none⟩ ::
    ⟨some 20, .mv 1 (.t 0), some (1, true)⟩ ::
    ⟨some 21, .mv 0 (.t 5), some (1, true)⟩ ::
    ⟨some 22, .iaddr 1 (.t 20) (.t 21), some (1, true)⟩ ::
    ⟨some 23, .load false 1 (.t 22), some (1, true)⟩ ::
    ⟨some 24, .mkfn 42 [(.t 3)], some (1, true)⟩ ::
    ⟨some 25, .call 41 [(.t 23), (.t 24)], some (1, true)⟩ ::
    ⟨some 26, .pick (.t 19) (.t 25) (.c (.bool false)), none⟩ ::
    []))
  (.cond (.t 26) (c15_2) (.skip))
def c15_4 : HCode :=
  .region none (⟨some 27, .bin .add (.t 13) (.c (.int .i64 1)), none⟩ ::
    ⟨some 13, .mv 0 (.t 27), none⟩ ::
    [])
def c15_5 : HCode :=
  .seq (.block 1 (.seq (.region none (⟨some 15, .mv 0 (.t 13), none⟩ ::
      ⟨some 16, .iaddr 1 (.t 11) (.t 13), none⟩ ::
      ⟨some 17, .load false 1 (.t 16), none⟩ ::
      ⟨some 5, .mv 0 (.t 15), none⟩ ::
      ⟨some 6, .mv 0 (.t 17), none⟩ ::
      []))
    (c15_3)))
  (c15_4)
def c15_6 : HCode :=
  .seq (.region none (⟨some 14, .bin .lss (.t 13) (.t 12), none⟩ ::
    []))
  (.seq (.cond (.t 14) (.skip) (.exit 0))
  (c15_5))
def c15_7 : HCode :=
  .seq (.region none (⟨some 4, .mv 0 (.c (.bool true)), none⟩ ::
    []))
  (.ret)
def c15_8 : HCode :=
  .seq (.seq (.region none (⟨some 11, .load false 1 (.t 3), none⟩ ::
    ⟨some 12, .len (.t 11), none⟩ ::
    ⟨some 13, .mv 0 (.c (.int .i64 0)), none⟩ ::
    []))
  (.block 0 (.loop (c15_6))))
  (c15_7)
def c15_9 : HCode :=
  .seq (.seq (.region none (⟨some 7, .mv 1 (.t 0), none⟩ ::
    ⟨some 8, .load false 1 (.t 3), none⟩ ::
    ⟨some 9, .call 40 [(.t 7), (.t 8)], none⟩ ::
    ⟨some 10, .un .not (.t 9), none⟩ ::
    []))
  (.cond (.t 10) (c15_1) (.skip)))
  (c15_8)
def c15 : HCode :=
  .seq (.region none (⟨some 3, .newv 1 (.t 1), none⟩ ::
    ⟨some 4, .mv 0 (.c (.bool false)), none⟩ ::
    []))
  (c15_9)
theorem fc15 : funCode Try.prog 15 = some (c15, [4], 28) := by kernel_rfl

def c17_1 : HCode :=
  .seq (.region none (⟨some 4, .mv 0 (.c (.bool false)), none⟩ ::
    []))
  (.ret)
def c17_2 : HCode :=
  .seq (.region none (⟨some 4, .mv 0 (.c (.bool false)), none⟩ ::
    []))
  (.ret)
def c17_3 : HCode :=
  .region none (⟨some 15, .mv 0 (.t 5), none⟩ ::
    ⟨some 16, .bin .add (.t 15) (.c (.int .i64 1)), none⟩ ::
    ⟨some 5, .mv 0 (.t 16), none⟩ ::
    [])
def c17_4 : HCode :=
  .seq (.block 1 (.seq (.region (some [0, 0, 3, 7, 0, 0, 48, 112, 255]) (⟨some 17, .mv 1 (.t 0), none⟩ ::
      ⟨some 18, .mv 0 (.t 5), none⟩ ::
      ⟨some 19, .iaddr 1 (.t 17) (.t 18), none⟩ ::
      ⟨some 20, .load false 1 (.t 19), none⟩ ::
      ⟨some 21, .mv 1 (.t 1), none⟩ ::
      ⟨some 22, .mv 0 (.t 5), none⟩ ::
      ⟨some 23, .iaddr 1 (.t 21) (.t 22), none⟩ ::
      ⟨some 24, .load false 1 (.t 23), none⟩ ::
      ⟨some 25, .beq true (.t 20) (.t 24), none⟩ ::
      []))
    (.cond (.t 25) (c17_2) (.skip))))
  (c17_3)
def c17_5 : HCode :=
  .seq (.seq (.region none (⟨some 11, .mv 0 (.t 5), none⟩ ::
    ⟨some 12, .mv 1 (.t 0), none⟩ ::
    ⟨some 13, .len (.t 12), none⟩ ::
    ⟨some 14, .bin .lss (.t 11) (.t 13), none⟩ ::
    []))
  (.cond (.t 14) (.skip) (.exit 0)))
  (c17_4)
def c17_6 : HCode :=
  .seq (.region none (⟨some 4, .mv 0 (.c (.bool true)), none⟩ ::
    []))
  (.ret)
def c17_7 : HCode :=
  .seq (.seq (.region none (⟨some 5, .mv 0 (.c (.int .i64 0)), none⟩ ::
    []))
  (.block 0 (.loop (c17_5))))
  (c17_6)
def c17_8 : HCode :=
  .seq (.seq (.region none (⟨some 6, .mv 1 (.t 0), none⟩ ::
    ⟨some 7, .len (.t 6), none⟩ ::
    ⟨some 8, .mv 1 (.t 1), none⟩ ::
    ⟨some 9, .len (.t 8), none⟩ ::
    ⟨some 10, .bin .neq (.t 7) (.t 9), none⟩ ::
    []))
  (.cond (.t 10) (c17_1) (.skip)))
  (c17_7)
def c17 : HCode :=
  .seq (.region none (⟨some 4, .mv 0 (.c (.bool false)), none⟩ ::
    []))
  (c17_8)
theorem fc17 : funCode Try.prog 17 = some (c17, [4], 26) := by kernel_rfl

def c18_1 : HCode :=
  .seq (.region none (⟨some 4, .mv 1 (.c (.nils)), none⟩ ::
    []))
  (.ret)
def c18_2 : HCode :=
  .region none (⟨some 28, .mv 0 (.t 7), none⟩ ::
    ⟨some 29, .mv 0 (.t 8), none⟩ ::
    ⟨some 30, .callv (.t 28) [(.t 29)], none⟩ ::
    [])
def c18_3 : HCode :=
  .seq (.region none (⟨some 27, .mv 0 (.t 9), none⟩ ::
    []))
  (.cond (.t 27) (c18_2) (.skip))
def c18_4 : HCode :=
  .region none (⟨some 31, .bin .add (.t 22) (.c (.int .i64 1)), none⟩ ::
    ⟨some 22, .mv 0 (.t 31), none⟩ ::
    [])
def c18_5 : HCode :=
  .seq (.block 1 (.seq (.region none (⟨some 24, .mv 0 (.t 22), none⟩ ::
      ⟨some 25, .iaddr 1 (.t 20) (.t 22), none⟩ ::
      ⟨some 26, .load false 1 (.t 25), none⟩ ::
      ⟨some 8, .mv 0 (.t 24), none⟩ ::
      ⟨some 9, .mv 0 (.t 26), none⟩ ::
      []))
    (c18_3)))
  (c18_4)
def c18_6 : HCode :=
  .seq (.region none (⟨some 23, .bin .lss (.t 22) (.t 21), none⟩ ::
    []))
  (.seq (.cond (.t 23) (.skip) (.exit 0))
  (c18_5))
def c18_7 : HCode :=
  .region none (⟨some 45, .mv 0 (.t 7), none⟩ ::
    ⟨some 46, .mv 0 (.t 11), none⟩ ::
    ⟨some 47, .callv (.t 45) [(.t 46)], none⟩ ::
    [])
def c18_8 : HCode :=
  .region none (⟨some 48, .bin .add (.t 41) (.c (.int .i64 1)), none⟩ ::
    ⟨some 41, .mv 0 (.t 48), none⟩ ::
    [])
def c18_9 : HCode :=
  .seq (.block 5 (.seq (.region none (⟨some 43, .iaddr 1 (.t 39) (.t 41), none⟩ ::
      ⟨some 44, .load false 1 (.t 43), none⟩ ::
      ⟨some 11, .mv 0 (.t 44), none⟩ ::
      []))
    (c18_7)))
  (c18_8)
def c18_10 : HCode :=
  .seq (.region none (⟨some 42, .bin .lss (.t 41) (.t 40), none⟩ ::
    []))
  (.seq (.cond (.t 42) (.skip) (.exit 4))
  (c18_9))
def c18_11 : HCode :=
  .block 3 (.seq (.region none (⟨some 36, .mv 1 (.t 0), none⟩ ::
      ⟨some 37, .call 46 [(.t 6)], none⟩ ::
      ⟨some 38, .iaddr 1 (.t 36) (.t 37), none⟩ ::
      ⟨some 39, .load false 1 (.t 38), none⟩ ::
      ⟨some 40, .len (.t 39), none⟩ ::
      ⟨some 41, .mv 0 (.c (.int .i64 0)), none⟩ ::
      []))
    (.block 4 (.loop (c18_10))))
def c18_12 : HCode :=
  .seq (.seq (.region none (⟨some 32, .faddr 0 (.t 6), none⟩ ::
    ⟨some 33, .load false 1 (.t 32), none⟩ ::
    ⟨some 34, .len (.t 33), none⟩ ::
    ⟨some 35, .bin .gtr (.t 34) (.c (.int .i64 0)), none⟩ ::
    []))
  (.cond (.t 35) (.skip) (.exit 2)))
  (c18_11)
def c18_13 : HCode :=
  .seq (.region none (⟨some 49, .load false 1 (.t 5), none⟩ ::
    ⟨some 4, .mv 1 (.t 49), none⟩ ::
    []))
  (.ret)
def c18_14 : HCode :=
  .seq (.seq (.region none (⟨some 20, .mv 1 (.t 1), none⟩ ::
    ⟨some 21, .len (.t 20), none⟩ ::
    ⟨some 22, .mv 0 (.c (.int .i64 0)), none⟩ ::
    []))
  (.block 0 (.loop (c18_6))))
  (.seq (.block 2 (.loop (c18_12)))
  (c18_13))
def c18_15 : HCode :=
  .seq (.region none (⟨some 19, .mkfn 44 [(.t 5), (.t 6)], none⟩ ::
    ⟨some 7, .mv 0 (.t 19), none⟩ ::
    []))
  (c18_14)
def c18_16 : HCode :=
  .seq (.region none (⟨some 6, .newz [.nils], none⟩ ::
    []))
  (c18_15)
def c18_17 : HCode :=
  .seq (.region none (⟨some 16, .mv 1 (.t 1), none⟩ ::
    ⟨some 17, .len (.t 16), none⟩ ::
    ⟨some 18, .mksl 1 1 [.bool false] (.t 17), none⟩ ::
    ⟨some 5, .newz [.nils], none⟩ ::
    ⟨none, .store false 1 (.t 5) (.t 18), none⟩ ::
    []))
  (c18_16)
def c18_18 : HCode :=
  .seq (.seq (.region none (⟨some 12, .mv 1 (.t 0), none⟩ ::
    ⟨some 13, .mv 1 (.t 1), none⟩ ::
    ⟨some 14, .call 40 [(.t 12), (.t 13)], none⟩ ::
    ⟨some 15, .un .not (.t 14), none⟩ ::
    []))
  (.cond (.t 15) (c18_1) (.skip)))
  (c18_17)
def c18 : HCode :=
  .seq (.region none (⟨some 4, .mv 1 (.c (.nils)), none⟩ ::
    []))
  (c18_18)
theorem fc18 : funCode Try.prog 18 = some (c18, [4], 50) := by kernel_rfl

def c20_1 : HCode :=
  .region none (⟨some 23, .mv 0 (.t 7), none⟩ ::
    ⟨some 24, .bin .rem (.t 23) (.c (.int .i64 3)), none⟩ ::
    ⟨some 25, .bin .sub (.c (.int .i64 2147483648)) (.t 24), none⟩ ::
    ⟨some 8, .mv 0 (.t 25), none⟩ ::
    [])
def c20_2 : HCode :=
  .region none (⟨some 29, .mv 0 (.t 7), none⟩ ::
    ⟨some 30, .bin .rem (.t 29) (.c (.int .i64 3)), none⟩ ::
    ⟨some 31, .bin .add (.c (.int .i64 (-2147483648))) (.t 30), none⟩ ::
    ⟨some 8, .mv 0 (.t 31), none⟩ ::
    [])
def c20_3 : HCode :=
  .region none (⟨some 32, .mv 1 (.t 5), none⟩ ::
    ⟨some 33, .mv 0 (.t 8), none⟩ ::
    ⟨some 34, .bsl 1 1 [(.t 33)], none⟩ ::
    ⟨some 35, .app true 1 8 (.t 32) (.t 34), none⟩ ::
    ⟨some 5, .mv 1 (.t 35), none⟩ ::
    [])
def c20_4 : HCode :=
  .seq (.seq (.region none (⟨some 26, .mv 0 (.t 7), none⟩ ::
    ⟨some 27, .bin .rem (.t 26) (.c (.int .i64 17)), none⟩ ::
    ⟨some 28, .bin .eql (.t 27) (.c (.int .i64 0)), none⟩ ::
    []))
  (.cond (.t 28) (c20_2) (.skip)))
  (c20_3)
def c20_5 : HCode :=
  .seq (.seq (.region none (⟨some 20, .mv 0 (.t 7), none⟩ ::
    ⟨some 21, .bin .rem (.t 20) (.c (.int .i64 13)), none⟩ ::
    ⟨some 22, .bin .eql (.t 21) (.c (.int .i64 0)), none⟩ ::
    []))
  (.cond (.t 22) (c20_1) (.skip)))
  (c20_4)
def c20_6 : HCode :=
  .seq (.region none (⟨some 17, .mv 0 (.t 7), none⟩ ::
    ⟨some 18, .bin .rem (.t 17) (.c (.int .i64 21)), none⟩ ::
    ⟨some 19, .bin .sub (.t 18) (.c (.int .i64 8)), none⟩ ::
    ⟨some 8, .mv 0 (.t 19), none⟩ ::
    []))
  (c20_5)
def c20_7 : HCode :=
  .region none (⟨some 12, .mv 0 (.t 6), none⟩ ::
    ⟨some 13, .bin .add (.t 12) (.c (.int .i64 1)), none⟩ ::
    ⟨some 6, .mv 0 (.t 13), none⟩ ::
    [])
def c20_8 : HCode :=
  .seq (.block 1 (.seq (.region none (⟨some 14, .mv 1 (.t 0), none⟩ ::
      ⟨some 15, .mv 0 (.t 6), none⟩ ::
      ⟨some 16, .call 47 [(.t 14), (.t 15), (.c (.int .i64 1048576))], none⟩ ::
      ⟨some 7, .mv 0 (.t 16), none⟩ ::
      []))
    (c20_6)))
  (c20_7)
def c20_9 : HCode :=
  .seq (.seq (.region none (⟨some 9, .mv 0 (.t 6), none⟩ ::
    ⟨some 10, .mv 0 (.t 1), none⟩ ::
    ⟨some 11, .bin .lss (.t 9) (.t 10), none⟩ ::
    []))
  (.cond (.t 11) (.skip) (.exit 0)))
  (c20_8)
def c20_10 : HCode :=
  .seq (.region none (⟨some 36, .mv 1 (.t 5), none⟩ ::
    ⟨some 4, .mv 1 (.t 36), none⟩ ::
    []))
  (.ret)
def c20_11 : HCode :=
  .seq (.seq (.region none (⟨some 6, .mv 0 (.c (.int .i64 0)), none⟩ ::
    []))
  (.block 0 (.loop (c20_9))))
  (c20_10)
def c20_12 : HCode :=
  .seq (.region none (⟨some 5, .mv 1 (.c (.nils)), none⟩ ::
    []))
  (c20_11)
def c20 : HCode :=
  .seq (.region none (⟨some 4, .mv 1 (.c (.nils)), none⟩ ::
    []))
  (c20_12)
theorem fc20 : funCode Try.prog 20 = some (c20, [4], 37) := by kernel_rfl

def c21_1 : HCode :=
  .seq (.region none (⟨some 0, .mv 0 (.c (.bool false)), none⟩ ::
    []))
  (.ret)
def c21_2 : HCode :=
  .seq (.region none (⟨some 90, .mv 3 (.t 8), none⟩ ::
    ⟨some 91, .iaddr 3 (.t 90) (.c (.int .i64 4)), none⟩ ::
    ⟨some 92, .load true 3 (.t 91), none⟩ ::
    ⟨some 93, .bld [.int .i64 0, .int .i64 0, .int .i64 0] [(0, 1, (.c (.int .i64 2))), (1, 1, (.c (.int .i64 0))), (2, 1, (.c (.int .i64 1099511627776)))], none⟩ ::
    ⟨some 94, .aeq false 3 (.t 92) (.t 93), none⟩ ::
    ⟨some 95, .mv 0 (.t 94), none⟩ ::
    ⟨some 96, .mv 1 (.t 3), some (5, true)⟩ ::
    ⟨some 97, .iaddr 1 (.t 96) (.c (.int .i64 0)), some (5, true)⟩ ::
    ⟨some 98, .load false 1 (.t 97), some (5, true)⟩ ::
    ⟨some 99, .pick (.t 95) (.t 98) (.c (.bool false)), none⟩ ::
    ⟨some 100, .mv 0 (.t 99), none⟩ ::
    ⟨some 101, .mv 1 (.t 3), some (10, true)⟩ ::
    ⟨some 102, .iaddr 1 (.t 101) (.c (.int .i64 1)), some (10, true)⟩ ::
    ⟨some 103, .load false 1 (.t 102), some (10, true)⟩ ::
    ⟨some 104, .pick (.t 100) (.t 103) (.c (.bool false)), none⟩ ::
    ⟨some 105, .mv 0 (.t 104), none⟩ ::
    ⟨some 106, .mv 1 (.t 3), some (15, true)⟩ ::
    ⟨some 107, .iaddr 1 (.t 106) (.c (.int .i64 2)), some (15, true)⟩ ::
    ⟨some 108, .load false 1 (.t 107), some (15, true)⟩ ::
    ⟨some 109, .un .not (.t 108), some (15, true)⟩ ::
    ⟨some 110, .pick (.t 105) (.t 109) (.c (.bool false)), none⟩ ::
    ⟨some 111, .mv 0 (.t 110), none⟩ ::
    ⟨some 112, .mv 1 (.t 13), some (21, true)⟩ ::
    ⟨some 113, .bsl 1 3 [(.c (.bool true)), (.c (.bool true)), (.c (.bool true))], some (21, true)⟩ ::
    ⟨some 114, .call 17 [(.t 112), (.t 113)], some (21, true)⟩ ::
    ⟨some 115, .pick (.t 111) (.t 114) (.c (.bool false)), none⟩ ::
    ⟨some 116, .mv 0 (.t 115), none⟩ ::
    ⟨some 117, .mv 1 (.t 1), some (26, true)⟩ ::
    ⟨some 118, .mv 1 (.t 2), some (26, true)⟩ ::
    ⟨some 119, .call 13 [(.t 117), (.t 118)], some (26, true)⟩ ::
    ⟨some 120, .pick (.t 116) (.t 119) (.c (.bool false)), none⟩ ::
    ⟨some 121, .mv 0 (.t 120), none⟩ ::
    ⟨some 122, .mv 1 (.t 2), some (31, true)⟩ ::
    ⟨some 123, .mv 1 (.t 3), some (31, true)⟩ ::
    ⟨some 124, .call 15 [(.t 122), (.t 123)], some (31, true)⟩ ::
    ⟨some 125, .pick (.t 121) (.t 124) (.c (.bool false)), none⟩ ::
    ⟨some 126, .mv 0 (.t 125), none⟩ ::
    ⟨some 127, .mv 1 (.t 2), some (36, true)⟩ ::
    ⟨some 128, .bsl 1 3 [(.c (.bool true)), (.c (.bool false)), (.c (.bool false))], some (36, true)⟩ ::
    ⟨some 129, .call 15 [(.t 127), (.t 128)], some (36, true)⟩ ::
    ⟨some 130, .un .not (.t 129), some (36, true)⟩ ::
    ⟨some 131, .pick (.t 126) (.t 130) (.c (.bool false)), none⟩ ::
    ⟨some 0, .mv 0 (.t 131), none⟩ ::
    []))
  (.ret)
def c21_3 : HCode :=
  .seq (.seq (.region none (⟨some 49, .mv 0 (.t 6), none⟩ ::
    ⟨some 50, .bin .neq (.t 49) (.c (.int .i64 0)), none⟩ ::
    ⟨some 51, .mv 0 (.t 50), none⟩ ::
    ⟨some 52, .mv 0 (.t 10), some (2, false)⟩ ::
    ⟨some 53, .bin .neq (.t 52) (.c (.int .i64 0)), some (2, false)⟩ ::
    ⟨some 54, .pick (.t 51) (.c (.bool true)) (.t 53), none⟩ ::
    ⟨some 55, .mv 0 (.t 54), none⟩ ::
    ⟨some 56, .mv 0 (.t 12), some (6, false)⟩ ::
    ⟨some 57, .bin .neq (.t 56) (.c (.int .i64 0)), some (6, false)⟩ ::
    ⟨some 58, .pick (.t 55) (.c (.bool true)) (.t 57), none⟩ ::
    ⟨some 59, .mv 0 (.t 58), none⟩ ::
    ⟨some 60, .mv 0 (.t 4), some (10, false)⟩ ::
    ⟨some 61, .bin .neq (.t 60) (.c (.int .i64 2)), some (10, false)⟩ ::
    ⟨some 62, .pick (.t 59) (.c (.bool true)) (.t 61), none⟩ ::
    ⟨some 63, .mv 0 (.t 62), none⟩ ::
    ⟨some 64, .mv 0 (.t 9), some (14, false)⟩ ::
    ⟨some 65, .bin .neq (.t 64) (.c (.int .i64 2)), some (14, false)⟩ ::
    ⟨some 66, .pick (.t 63) (.c (.bool true)) (.t 65), none⟩ ::
    ⟨some 67, .mv 0 (.t 66), none⟩ ::
    ⟨some 68, .mv 0 (.t 11), some (18, false)⟩ ::
    ⟨some 69, .bin .neq (.t 68) (.c (.int .i64 5)), some (18, false)⟩ ::
    ⟨some 70, .pick (.t 67) (.c (.bool true)) (.t 69), none⟩ ::
    ⟨some 71, .mv 0 (.t 70), none⟩ ::
    ⟨some 72, .mv 0 (.t 7), some (22, false)⟩ ::
    ⟨some 73, .bin .neq (.t 72) (.c (.int .i64 5)), some (22, false)⟩ ::
    ⟨some 74, .pick (.t 71) (.c (.bool true)) (.t 73), none⟩ ::
    ⟨some 75, .mv 0 (.t 74), none⟩ ::
    ⟨some 76, .mv 3 (.t 8), some (26, false)⟩ ::
    ⟨some 77, .len (.t 76), some (26, false)⟩ ::
    ⟨some 78, .bin .neq (.t 77) (.c (.int .i64 5)), some (26, false)⟩ ::
    ⟨some 79, .pick (.t 75) (.c (.bool true)) (.t 78), none⟩ ::
    ⟨some 80, .mv 0 (.t 79), none⟩ ::
    ⟨some 81, .mv 1 (.t 5), some (31, false)⟩ ::
    ⟨some 82, .len (.t 81), some (31, false)⟩ ::
    ⟨some 83, .bin .neq (.t 82) (.c (.int .i64 5)), some (31, false)⟩ ::
    ⟨some 84, .pick (.t 80) (.c (.bool true)) (.t 83), none⟩ ::
    ⟨some 85, .mv 0 (.t 84), none⟩ ::
    ⟨some 86, .mv 1 (.t 3), some (36, false)⟩ ::
    ⟨some 87, .len (.t 86), some (36, false)⟩ ::
    ⟨some 88, .bin .neq (.t 87) (.c (.int .i64 3)), some (36, false)⟩ ::
    ⟨some 89, .pick (.t 85) (.c (.bool true)) (.t 88), none⟩ ::
    []))
  (.cond (.t 89) (c21_1) (.skip)))
  (c21_2)
def c21_4 : HCode :=
  .seq (.region none (⟨some 46, .mv 1 (.t 2), none⟩ ::
    ⟨some 47, .bsl 1 3 [(.c (.bool false)), (.c (.bool false)), (.c (.bool true))], none⟩ ::
    ⟨some 48, .call 18 [(.t 46), (.t 47)], none⟩ ::
    ⟨some 13, .mv 1 (.t 48), none⟩ ::
    []))
  (c21_3)
def c21_5 : HCode :=
  .seq (.region none (⟨some 40, .mv 1 (.t 1), none⟩ ::
    ⟨some 41, .mv 1 (.t 2), none⟩ ::
    ⟨some 42, .mksl 1 8 [.int .i64 0] (.c (.int .i64 5)), none⟩ ::
    ⟨some 43, .call 28 [(.t 40), (.t 41), (.t 42)], none⟩ ::
    ⟨some 39, .mv 0 (.t 43), none⟩ ::
    ⟨some 44, .ext (.t 39) 0, none⟩ ::
    ⟨some 45, .ext (.t 39) 1, none⟩ ::
    ⟨some 11, .mv 0 (.t 44), none⟩ ::
    ⟨some 12, .mv 0 (.t 45), none⟩ ::
    []))
  (c21_4)
def c21_6 : HCode :=
  .seq (.region none (⟨some 33, .mv 1 (.t 1), none⟩ ::
    ⟨some 34, .mv 1 (.t 2), none⟩ ::
    ⟨some 35, .bsl 1 5 [(.c (.int .i64 3)), (.c (.int .i64 3)), (.c (.int .i64 0)), (.c (.int .i64 3)), (.c (.int .i64 0))], none⟩ ::
    ⟨some 36, .call 28 [(.t 33), (.t 34), (.t 35)], none⟩ ::
    ⟨some 32, .mv 0 (.t 36), none⟩ ::
    ⟨some 37, .ext (.t 32) 0, none⟩ ::
    ⟨some 38, .ext (.t 32) 1, none⟩ ::
    ⟨some 9, .mv 0 (.t 37), none⟩ ::
    ⟨some 10, .mv 0 (.t 38), none⟩ ::
    []))
  (c21_5)
def c21_7 : HCode :=
  .seq (.region none (⟨some 27, .mv 1 (.t 1), none⟩ ::
    ⟨some 28, .mv 1 (.t 2), none⟩ ::
    ⟨some 29, .call 22 [(.t 27), (.t 28)], none⟩ ::
    ⟨some 26, .mv 0 (.t 29), none⟩ ::
    ⟨some 30, .ext (.t 26) 0, none⟩ ::
    ⟨some 31, .ext (.t 26) 1, none⟩ ::
    ⟨some 7, .mv 0 (.t 30), none⟩ ::
    ⟨some 8, .mv 3 (.t 31), none⟩ ::
    []))
  (c21_6)
def c21_8 : HCode :=
  .seq (.region none (⟨some 19, .mv 1 (.t 1), none⟩ ::
    ⟨some 20, .mv 1 (.t 2), none⟩ ::
    ⟨some 21, .call 25 [(.t 19), (.t 20)], none⟩ ::
    ⟨some 18, .mv 0 (.t 21), none⟩ ::
    ⟨some 22, .ext (.t 18) 0, none⟩ ::
    ⟨some 23, .ext (.t 18) 1, none⟩ ::
    ⟨some 24, .ext (.t 18) 2, none⟩ ::
    ⟨some 25, .ext (.t 18) 3, none⟩ ::
    ⟨some 3, .mv 1 (.t 22), none⟩ ::
    ⟨some 4, .mv 0 (.t 23), none⟩ ::
    ⟨some 5, .mv 1 (.t 24), none⟩ ::
    ⟨some 6, .mv 0 (.t 25), none⟩ ::
    []))
  (c21_7)
def c21_9 : HCode :=
  .seq (.region none (⟨some 15, .bsl 1 1 [(.c (.int .i64 1))], none⟩ ::
    ⟨some 16, .bsl 1 1 [(.c (.int .i64 0))], none⟩ ::
    ⟨some 17, .bsl 1 3 [(.t 15), (.c (.nils)), (.t 16)], none⟩ ::
    ⟨some 2, .mv 1 (.t 17), none⟩ ::
    []))
  (c21_8)
def c21_10 : HCode :=
  .seq (.region none (⟨some 14, .bsl 1 3 [(.c (.int .i64 5)), (.c (.int .i64 (-3))), (.c (.int .i64 (-4)))], none⟩ ::
    ⟨some 1, .mv 1 (.t 14), none⟩ ::
    []))
  (c21_9)
def c21 : HCode :=
  .seq (.region none (⟨some 0, .mv 0 (.c (.bool false)), none⟩ ::
    []))
  (c21_10)
theorem fc21 : funCode Try.prog 21 = some (c21, [0], 132) := by kernel_rfl

def c22_1 : HCode :=
  .seq (.region none (⟨some 4, .mv 0 (.c (.int .i64 0)), none⟩ ::
    ⟨some 5, .mv 3 (.c (.nils)), none⟩ ::
    []))
  (.ret)
def c22_2 : HCode :=
  .region none (⟨some 30, .mv 3 (.t 7), none⟩ ::
    ⟨some 31, .mv 0 (.t 6), none⟩ ::
    ⟨some 32, .mv 0 (.t 8), none⟩ ::
    ⟨some 33, .mv 0 (.t 9), none⟩ ::
    ⟨some 34, .bld [.int .i64 0, .int .i64 0, .int .i64 0] [(0, 1, (.t 31)), (1, 1, (.t 32)), (2, 1, (.t 33))], none⟩ ::
    ⟨some 35, .bsl 3 1 [(.t 34)], none⟩ ::
    ⟨some 36, .app true 3 24 (.t 30) (.t 35), none⟩ ::
    ⟨some 7, .mv 3 (.t 36), none⟩ ::
    [])
def c22_3 : HCode :=
  .region none (⟨some 40, .mv 3 (.t 7), none⟩ ::
    ⟨some 41, .mv 0 (.t 8), none⟩ ::
    ⟨some 42, .mv 0 (.t 6), none⟩ ::
    ⟨some 43, .bin .add (.t 42) (.c (.int .i64 1)), none⟩ ::
    ⟨some 44, .mv 0 (.t 9), none⟩ ::
    ⟨some 45, .un .neg (.t 44), none⟩ ::
    ⟨some 46, .bld [.int .i64 0, .int .i64 0, .int .i64 0] [(0, 1, (.t 41)), (1, 1, (.t 43)), (2, 1, (.t 45))], none⟩ ::
    ⟨some 47, .bsl 3 1 [(.t 46)], none⟩ ::
    ⟨some 48, .app true 3 24 (.t 40) (.t 47), none⟩ ::
    ⟨some 7, .mv 3 (.t 48), none⟩ ::
    [])
def c22_4 : HCode :=
  .seq (.region none (⟨some 38, .mv 0 (.t 9), none⟩ ::
    ⟨some 39, .bin .lss (.t 38) (.c (.int .i64 0)), none⟩ ::
    ⟨some 37, .mv 0 (.t 39), none⟩ ::
    []))
  (.cond (.t 37) (c22_3) (.skip))
def c22_5 : HCode :=
  .block 2 (.seq (.region none (⟨some 28, .mv 0 (.t 9), none⟩ ::
      ⟨some 29, .bin .gtr (.t 28) (.c (.int .i64 0)), none⟩ ::
      ⟨some 27, .mv 0 (.t 29), none⟩ ::
      []))
    (.cond (.t 27) (c22_2) (c22_4)))
def c22_6 : HCode :=
  .region none (⟨some 49, .bin .add (.t 22) (.c (.int .i64 1)), none⟩ ::
    ⟨some 22, .mv 0 (.t 49), none⟩ ::
    [])
def c22_7 : HCode :=
  .seq (.block 1 (.seq (.region none (⟨some 24, .mv 0 (.t 22), none⟩ ::
      ⟨some 25, .iaddr 1 (.t 20) (.t 22), none⟩ ::
      ⟨some 26, .load false 1 (.t 25), none⟩ ::
      ⟨some 8, .mv 0 (.t 24), none⟩ ::
      ⟨some 9, .mv 0 (.t 26), none⟩ ::
      []))
    (c22_5)))
  (c22_6)
def c22_8 : HCode :=
  .seq (.region none (⟨some 23, .bin .lss (.t 22) (.t 21), none⟩ ::
    []))
  (.seq (.cond (.t 23) (.skip) (.exit 0))
  (c22_7))
def c22_9 : HCode :=
  .region none (⟨some 66, .mv 3 (.t 7), none⟩ ::
    ⟨some 67, .mv 0 (.t 10), none⟩ ::
    ⟨some 68, .mv 0 (.t 13), none⟩ ::
    ⟨some 69, .bld [.int .i64 0, .int .i64 0, .int .i64 0] [(0, 1, (.t 67)), (1, 1, (.t 68)), (2, 1, (.c (.int .i64 1099511627776)))], none⟩ ::
    ⟨some 70, .bsl 3 1 [(.t 69)], none⟩ ::
    ⟨some 71, .app true 3 24 (.t 66) (.t 70), none⟩ ::
    ⟨some 7, .mv 3 (.t 71), none⟩ ::
    [])
def c22_10 : HCode :=
  .seq (.region none (⟨some 63, .mv 0 (.t 13), none⟩ ::
    ⟨some 64, .mv 0 (.t 10), none⟩ ::
    ⟨some 65, .bin .neq (.t 63) (.t 64), none⟩ ::
    []))
  (.cond (.t 65) (c22_9) (.skip))
def c22_11 : HCode :=
  .region none (⟨some 72, .bin .add (.t 59) (.c (.int .i64 1)), none⟩ ::
    ⟨some 59, .mv 0 (.t 72), none⟩ ::
    [])
def c22_12 : HCode :=
  .seq (.block 6 (.seq (.region none (⟨some 61, .iaddr 1 (.t 57) (.t 59), none⟩ ::
      ⟨some 62, .load false 1 (.t 61), none⟩ ::
      ⟨some 13, .mv 0 (.t 62), none⟩ ::
      []))
    (c22_10)))
  (c22_11)
def c22_13 : HCode :=
  .seq (.region none (⟨some 60, .bin .lss (.t 59) (.t 58), none⟩ ::
    []))
  (.seq (.cond (.t 60) (.skip) (.exit 5))
  (c22_12))
def c22_14 : HCode :=
  .seq (.region none (⟨some 57, .mv 1 (.t 11), none⟩ ::
    ⟨some 58, .len (.t 57), none⟩ ::
    ⟨some 59, .mv 0 (.c (.int .i64 0)), none⟩ ::
    []))
  (.block 5 (.loop (c22_13)))
def c22_15 : HCode :=
  .region none (⟨some 73, .bin .add (.t 52) (.c (.int .i64 1)), none⟩ ::
    ⟨some 52, .mv 0 (.t 73), none⟩ ::
    [])
def c22_16 : HCode :=
  .seq (.block 4 (.seq (.region none (⟨some 54, .mv 0 (.t 52), none⟩ ::
      ⟨some 55, .iaddr 1 (.t 50) (.t 52), none⟩ ::
      ⟨some 56, .load false 1 (.t 55), none⟩ ::
      ⟨some 10, .mv 0 (.t 54), none⟩ ::
      ⟨some 11, .mv 1 (.t 56), none⟩ ::
      []))
    (c22_14)))
  (c22_15)
def c22_17 : HCode :=
  .seq (.region none (⟨some 53, .bin .lss (.t 52) (.t 51), none⟩ ::
    []))
  (.seq (.cond (.t 53) (.skip) (.exit 3))
  (c22_16))
def c22_18 : HCode :=
  .seq (.region none (⟨some 74, .mv 0 (.t 6), none⟩ ::
    ⟨some 75, .bin .add (.t 74) (.c (.int .i64 2)), none⟩ ::
    ⟨some 76, .mv 3 (.t 7), none⟩ ::
    ⟨some 4, .mv 0 (.t 75), none⟩ ::
    ⟨some 5, .mv 3 (.t 76), none⟩ ::
    []))
  (.ret)
def c22_19 : HCode :=
  .seq (.seq (.region none (⟨some 50, .mv 1 (.t 1), none⟩ ::
    ⟨some 51, .len (.t 50), none⟩ ::
    ⟨some 52, .mv 0 (.c (.int .i64 0)), none⟩ ::
    []))
  (.block 3 (.loop (c22_17))))
  (c22_18)
def c22_20 : HCode :=
  .seq (.seq (.region none (⟨some 20, .mv 1 (.t 0), none⟩ ::
    ⟨some 21, .len (.t 20), none⟩ ::
    ⟨some 22, .mv 0 (.c (.int .i64 0)), none⟩ ::
    []))
  (.block 0 (.loop (c22_8))))
  (c22_19)
def c22_21 : HCode :=
  .seq (.region none (⟨some 7, .mv 3 (.c (.nils)), none⟩ ::
    []))
  (c22_20)
def c22_22 : HCode :=
  .seq (.region none (⟨some 18, .mv 1 (.t 0), none⟩ ::
    ⟨some 19, .len (.t 18), none⟩ ::
    ⟨some 6, .mv 0 (.t 19), none⟩ ::
    []))
  (c22_21)
def c22_23 : HCode :=
  .seq (.seq (.region none (⟨some 14, .mv 1 (.t 0), none⟩ ::
    ⟨some 15, .mv 1 (.t 1), none⟩ ::
    ⟨some 16, .call 13 [(.t 14), (.t 15)], none⟩ ::
    ⟨some 17, .un .not (.t 16), none⟩ ::
    []))
  (.cond (.t 17) (c22_1) (.skip)))
  (c22_22)
def c22 : HCode :=
  .seq (.region none (⟨some 4, .mv 0 (.c (.int .i64 0)), none⟩ ::
    ⟨some 5, .mv 3 (.c (.nils)), none⟩ ::
    []))
  (c22_23)
theorem fc22 : funCode Try.prog 22 = some (c22, [4, 5], 77) := by kernel_rfl

def c23_1 : HCode :=
  .seq (.region none (⟨some 4, .mv 0 (.c (.int .i64 0)), none⟩ ::
    ⟨some 5, .mv 3 (.c (.nils)), none⟩ ::
    []))
  (.ret)
def c23_2 : HCode :=
  .region none (⟨some 27, .mv 3 (.t 7), none⟩ ::
    ⟨some 28, .mv 0 (.t 6), none⟩ ::
    ⟨some 29, .mv 0 (.t 8), none⟩ ::
    ⟨some 30, .mv 1 (.t 0), none⟩ ::
    ⟨some 31, .mv 0 (.t 8), none⟩ ::
    ⟨some 32, .iaddr 1 (.t 30) (.t 31), none⟩ ::
    ⟨some 33, .load false 1 (.t 32), none⟩ ::
    ⟨some 34, .bld [.int .i64 0, .int .i64 0, .int .i64 0] [(0, 1, (.t 28)), (1, 1, (.t 29)), (2, 1, (.t 33))], none⟩ ::
    ⟨some 35, .bsl 3 1 [(.t 34)], none⟩ ::
    ⟨some 36, .app true 3 24 (.t 27) (.t 35), none⟩ ::
    ⟨some 7, .mv 3 (.t 36), none⟩ ::
    [])
def c23_3 : HCode :=
  .region none (⟨some 42, .mv 3 (.t 7), none⟩ ::
    ⟨some 43, .mv 0 (.t 8), none⟩ ::
    ⟨some 44, .mv 0 (.t 6), none⟩ ::
    ⟨some 45, .bin .add (.t 44) (.c (.int .i64 1)), none⟩ ::
    ⟨some 46, .mv 1 (.t 0), none⟩ ::
    ⟨some 47, .mv 0 (.t 8), none⟩ ::
    ⟨some 48, .iaddr 1 (.t 46) (.t 47), none⟩ ::
    ⟨some 49, .load false 1 (.t 48), none⟩ ::
    ⟨some 50, .un .neg (.t 49), none⟩ ::
    ⟨some 51, .bld [.int .i64 0, .int .i64 0, .int .i64 0] [(0, 1, (.t 43)), (1, 1, (.t 45)), (2, 1, (.t 50))], none⟩ ::
    ⟨some 52, .bsl 3 1 [(.t 51)], none⟩ ::
    ⟨some 53, .app true 3 24 (.t 42) (.t 52), none⟩ ::
    ⟨some 7, .mv 3 (.t 53), none⟩ ::
    [])
def c23_4 : HCode :=
  .seq (.region none (⟨some 37, .mv 1 (.t 0), none⟩ ::
    ⟨some 38, .mv 0 (.t 8), none⟩ ::
    ⟨some 39, .iaddr 1 (.t 37) (.t 38), none⟩ ::
    ⟨some 40, .load false 1 (.t 39), none⟩ ::
    ⟨some 41, .bin .lss (.t 40) (.c (.int .i64 0)), none⟩ ::
    []))
  (.cond (.t 41) (c23_3) (.skip))
def c23_5 : HCode :=
  .region none (⟨some 20, .mv 0 (.t 8), none⟩ ::
    ⟨some 21, .bin .add (.t 20) (.c (.int .i64 1)), none⟩ ::
    ⟨some 8, .mv 0 (.t 21), none⟩ ::
    [])
def c23_6 : HCode :=
  .seq (.block 1 (.seq (.seq (.region none (⟨some 22, .mv 1 (.t 0), none⟩ ::
      ⟨some 23, .mv 0 (.t 8), none⟩ ::
      ⟨some 24, .iaddr 1 (.t 22) (.t 23), none⟩ ::
      ⟨some 25, .load false 1 (.t 24), none⟩ ::
      ⟨some 26, .bin .gtr (.t 25) (.c (.int .i64 0)), none⟩ ::
      []))
    (.cond (.t 26) (c23_2) (.skip)))
    (c23_4)))
  (c23_5)
def c23_7 : HCode :=
  .seq (.seq (.region none (⟨some 17, .mv 0 (.t 8), none⟩ ::
    ⟨some 18, .mv 0 (.t 6), none⟩ ::
    ⟨some 19, .bin .lss (.t 17) (.t 18), none⟩ ::
    []))
  (.cond (.t 19) (.skip) (.exit 0)))
  (c23_6)
def c23_8 : HCode :=
  .region none (⟨some 77, .mv 3 (.t 7), none⟩ ::
    ⟨some 78, .mv 0 (.t 9), none⟩ ::
    ⟨some 79, .mv 1 (.t 1), none⟩ ::
    ⟨some 80, .mv 0 (.t 9), none⟩ ::
    ⟨some 81, .iaddr 1 (.t 79) (.t 80), none⟩ ::
    ⟨some 82, .load false 1 (.t 81), none⟩ ::
    ⟨some 83, .mv 0 (.t 10), none⟩ ::
    ⟨some 84, .iaddr 1 (.t 82) (.t 83), none⟩ ::
    ⟨some 85, .load false 1 (.t 84), none⟩ ::
    ⟨some 86, .bld [.int .i64 0, .int .i64 0, .int .i64 0] [(0, 1, (.t 78)), (1, 1, (.t 85)), (2, 1, (.c (.int .i64 1099511627776)))], none⟩ ::
    ⟨some 87, .bsl 3 1 [(.t 86)], none⟩ ::
    ⟨some 88, .app true 3 24 (.t 77) (.t 87), none⟩ ::
    ⟨some 7, .mv 3 (.t 88), none⟩ ::
    [])
def c23_9 : HCode :=
  .region none (⟨some 66, .mv 0 (.t 10), none⟩ ::
    ⟨some 67, .bin .add (.t 66) (.c (.int .i64 1)), none⟩ ::
    ⟨some 10, .mv 0 (.t 67), none⟩ ::
    [])
def c23_10 : HCode :=
  .seq (.block 5 (.seq (.region none (⟨some 68, .mv 1 (.t 1), none⟩ ::
      ⟨some 69, .mv 0 (.t 9), none⟩ ::
      ⟨some 70, .iaddr 1 (.t 68) (.t 69), none⟩ ::
      ⟨some 71, .load false 1 (.t 70), none⟩ ::
      ⟨some 72, .mv 0 (.t 10), none⟩ ::
      ⟨some 73, .iaddr 1 (.t 71) (.t 72), none⟩ ::
      ⟨some 74, .load false 1 (.t 73), none⟩ ::
      ⟨some 75, .mv 0 (.t 9), none⟩ ::
      ⟨some 76, .bin .neq (.t 74) (.t 75), none⟩ ::
      []))
    (.cond (.t 76) (c23_8) (.skip))))
  (c23_9)
def c23_11 : HCode :=
  .seq (.seq (.region none (⟨some 59, .mv 0 (.t 10), none⟩ ::
    ⟨some 60, .mv 1 (.t 1), none⟩ ::
    ⟨some 61, .mv 0 (.t 9), none⟩ ::
    ⟨some 62, .iaddr 1 (.t 60) (.t 61), none⟩ ::
    ⟨some 63, .load false 1 (.t 62), none⟩ ::
    ⟨some 64, .len (.t 63), none⟩ ::
    ⟨some 65, .bin .lss (.t 59) (.t 64), none⟩ ::
    []))
  (.cond (.t 65) (.skip) (.exit 4)))
  (c23_10)
def c23_12 : HCode :=
  .region none (⟨some 57, .mv 0 (.t 9), none⟩ ::
    ⟨some 58, .bin .add (.t 57) (.c (.int .i64 1)), none⟩ ::
    ⟨some 9, .mv 0 (.t 58), none⟩ ::
    [])
def c23_13 : HCode :=
  .seq (.block 3 (.seq (.region none (⟨some 10, .mv 0 (.c (.int .i64 0)), none⟩ ::
      []))
    (.block 4 (.loop (c23_11)))))
  (c23_12)
def c23_14 : HCode :=
  .seq (.seq (.region none (⟨some 54, .mv 0 (.t 9), none⟩ ::
    ⟨some 55, .mv 0 (.t 6), none⟩ ::
    ⟨some 56, .bin .lss (.t 54) (.t 55), none⟩ ::
    []))
  (.cond (.t 56) (.skip) (.exit 2)))
  (c23_13)
def c23_15 : HCode :=
  .seq (.region none (⟨some 89, .mv 0 (.t 6), none⟩ ::
    ⟨some 90, .bin .add (.t 89) (.c (.int .i64 2)), none⟩ ::
    ⟨some 91, .mv 3 (.t 7), none⟩ ::
    ⟨some 4, .mv 0 (.t 90), none⟩ ::
    ⟨some 5, .mv 3 (.t 91), none⟩ ::
    []))
  (.ret)
def c23_16 : HCode :=
  .seq (.seq (.region none (⟨some 9, .mv 0 (.c (.int .i64 0)), none⟩ ::
    []))
  (.block 2 (.loop (c23_14))))
  (c23_15)
def c23_17 : HCode :=
  .seq (.seq (.region none (⟨some 8, .mv 0 (.c (.int .i64 0)), none⟩ ::
    []))
  (.block 0 (.loop (c23_7))))
  (c23_16)
def c23_18 : HCode :=
  .seq (.region none (⟨some 7, .mv 3 (.c (.nils)), none⟩ ::
    []))
  (c23_17)
def c23_19 : HCode :=
  .seq (.region none (⟨some 15, .mv 1 (.t 0), none⟩ ::
    ⟨some 16, .len (.t 15), none⟩ ::
    ⟨some 6, .mv 0 (.t 16), none⟩ ::
    []))
  (c23_18)
def c23_20 : HCode :=
  .seq (.seq (.region none (⟨some 11, .mv 1 (.t 0), none⟩ ::
    ⟨some 12, .mv 1 (.t 1), none⟩ ::
    ⟨some 13, .call 14 [(.t 11), (.t 12)], none⟩ ::
    ⟨some 14, .un .not (.t 13), none⟩ ::
    []))
  (.cond (.t 14) (c23_1) (.skip)))
  (c23_19)
def c23 : HCode :=
  .seq (.region none (⟨some 4, .mv 0 (.c (.int .i64 0)), none⟩ ::
    ⟨some 5, .mv 3 (.c (.nils)), none⟩ ::
    []))
  (c23_20)
theorem fc23 : funCode Try.prog 23 = some (c23, [4, 5], 92) := by kernel_rfl

def c25_1 : HCode :=
  .seq (.region none (⟨some 4, .mv 1 (.c (.nils)), none⟩ ::
    ⟨some 5, .mv 0 (.c (.int .i64 0)), none⟩ ::
    ⟨some 6, .mv 1 (.c (.nils)), none⟩ ::
    ⟨some 7, .mv 0 (.c (.int .i64 1)), none⟩ ::
    []))
  (.ret)
def c25_2 : HCode :=
  .seq (.region none (⟨some 40, .mv 0 (.t 13), none⟩ ::
    ⟨some 4, .mv 1 (.c (.nils)), none⟩ ::
    ⟨some 5, .mv 0 (.c (.int .i64 0)), none⟩ ::
    ⟨some 6, .mv 1 (.c (.nils)), none⟩ ::
    ⟨some 7, .mv 0 (.t 40), none⟩ ::
    []))
  (.ret)
def c25_3 : HCode :=
  .seq (.region none (⟨some 52, .mv 0 (.t 13), none⟩ ::
    ⟨some 4, .mv 1 (.c (.nils)), none⟩ ::
    ⟨some 5, .mv 0 (.c (.int .i64 0)), none⟩ ::
    ⟨some 6, .mv 1 (.c (.nils)), none⟩ ::
    ⟨some 7, .mv 0 (.t 52), none⟩ ::
    []))
  (.ret)
def c25_4 : HCode :=
  .region none (⟨some 64, .mv 0 (.t 15), none⟩ ::
    ⟨some 65, .mv 0 (.t 17), none⟩ ::
    ⟨some 66, .bin .add (.t 64) (.t 65), none⟩ ::
    ⟨some 15, .mv 0 (.t 66), none⟩ ::
    [])
def c25_5 : HCode :=
  .seq (.region none (⟨some 60, .mv 1 (.t 14), none⟩ ::
    ⟨some 61, .mv 0 (.t 16), none⟩ ::
    ⟨some 62, .iaddr 1 (.t 60) (.t 61), none⟩ ::
    ⟨some 63, .load false 1 (.t 62), none⟩ ::
    []))
  (.cond (.t 63) (c25_4) (.skip))
def c25_6 : HCode :=
  .region none (⟨some 67, .bin .add (.t 55) (.c (.int .i64 1)), none⟩ ::
    ⟨some 55, .mv 0 (.t 67), none⟩ ::
    [])
def c25_7 : HCode :=
  .seq (.block 1 (.seq (.region none (⟨some 57, .mv 0 (.t 55), none⟩ ::
      ⟨some 58, .iaddr 1 (.t 53) (.t 55), none⟩ ::
      ⟨some 59, .load false 1 (.t 58), none⟩ ::
      ⟨some 16, .mv 0 (.t 57), none⟩ ::
      ⟨some 17, .mv 0 (.t 59), none⟩ ::
      []))
    (c25_5)))
  (c25_6)
def c25_8 : HCode :=
  .seq (.region none (⟨some 56, .bin .lss (.t 55) (.t 54), none⟩ ::
    []))
  (.seq (.cond (.t 56) (.skip) (.exit 0))
  (c25_7))
def c25_9 : HCode :=
  .seq (.region none (⟨some 68, .mv 1 (.t 14), none⟩ ::
    ⟨some 69, .mv 0 (.t 10), none⟩ ::
    ⟨some 70, .slc 1 (.t 68) none (some (.t 69)), none⟩ ::
    ⟨some 71, .mv 0 (.t 15), none⟩ ::
    ⟨some 72, .mv 1 (.t 12), none⟩ ::
    ⟨some 4, .mv 1 (.t 70), none⟩ ::
    ⟨some 5, .mv 0 (.t 71), none⟩ ::
    ⟨some 6, .mv 1 (.t 72), none⟩ ::
    ⟨some 7, .mv 0 (.c (.int .i64 0)), none⟩ ::
    []))
  (.ret)
def c25_10 : HCode :=
  .seq (.seq (.region none (⟨some 53, .mv 1 (.t 0), none⟩ ::
    ⟨some 54, .len (.t 53), none⟩ ::
    ⟨some 55, .mv 0 (.c (.int .i64 0)), none⟩ ::
    []))
  (.block 0 (.loop (c25_8))))
  (c25_9)
def c25_11 : HCode :=
  .seq (.region none (⟨some 15, .mv 0 (.c (.int .i64 0)), none⟩ ::
    []))
  (c25_10)
def c25_12 : HCode :=
  .seq (.seq (.region none (⟨some 50, .mv 0 (.t 13), none⟩ ::
    ⟨some 51, .bin .neq (.t 50) (.c (.int .i64 0)), none⟩ ::
    []))
  (.cond (.t 51) (c25_3) (.skip)))
  (c25_11)
def c25_13 : HCode :=
  .seq (.region none (⟨some 42, .mv 0 (.t 8), none⟩ ::
    ⟨some 43, .mv 3 (.t 9), none⟩ ::
    ⟨some 44, .mv 0 (.t 10), none⟩ ::
    ⟨some 45, .mv 0 (.t 10), none⟩ ::
    ⟨some 46, .bin .add (.t 45) (.c (.int .i64 1)), none⟩ ::
    ⟨some 47, .call 33 [(.t 42), (.t 43), (.t 44), (.t 46)], none⟩ ::
    ⟨some 41, .mv 0 (.t 47), none⟩ ::
    ⟨some 48, .ext (.t 41) 0, none⟩ ::
    ⟨some 49, .ext (.t 41) 1, none⟩ ::
    ⟨some 14, .mv 1 (.t 48), none⟩ ::
    ⟨some 13, .mv 0 (.t 49), none⟩ ::
    []))
  (c25_12)
def c25_14 : HCode :=
  .seq (.seq (.region none (⟨some 38, .mv 0 (.t 13), none⟩ ::
    ⟨some 39, .bin .neq (.t 38) (.c (.int .i64 0)), none⟩ ::
    []))
  (.cond (.t 39) (c25_2) (.skip)))
  (c25_13)
def c25_15 : HCode :=
  .seq (.region none (⟨some 29, .mv 0 (.t 8), none⟩ ::
    ⟨some 30, .mv 3 (.t 9), none⟩ ::
    ⟨some 31, .mv 0 (.t 10), none⟩ ::
    ⟨some 32, .mv 0 (.t 10), none⟩ ::
    ⟨some 33, .bin .add (.t 32) (.c (.int .i64 1)), none⟩ ::
    ⟨some 34, .call 48 [(.t 29), (.t 30), (.t 31), (.t 33)], none⟩ ::
    ⟨some 28, .mv 0 (.t 34), none⟩ ::
    ⟨some 35, .ext (.t 28) 0, none⟩ ::
    ⟨some 36, .ext (.t 28) 1, none⟩ ::
    ⟨some 37, .ext (.t 28) 2, none⟩ ::
    ⟨some 11, .mv 0 (.t 35), none⟩ ::
    ⟨some 12, .mv 1 (.t 36), none⟩ ::
    ⟨some 13, .mv 0 (.t 37), none⟩ ::
    []))
  (c25_14)
def c25_16 : HCode :=
  .seq (.region none (⟨some 26, .mv 1 (.t 0), none⟩ ::
    ⟨some 27, .len (.t 26), none⟩ ::
    ⟨some 10, .mv 0 (.t 27), none⟩ ::
    []))
  (c25_15)
def c25_17 : HCode :=
  .seq (.seq (.region none (⟨some 24, .mv 0 (.t 8), none⟩ ::
    ⟨some 25, .bin .eql (.t 24) (.c (.int .i64 0)), none⟩ ::
    []))
  (.cond (.t 25) (c25_1) (.skip)))
  (c25_16)
def c25_18 : HCode :=
  .seq (.region none (⟨some 19, .mv 1 (.t 0), none⟩ ::
    ⟨some 20, .mv 1 (.t 1), none⟩ ::
    ⟨some 21, .call 22 [(.t 19), (.t 20)], none⟩ ::
    ⟨some 18, .mv 0 (.t 21), none⟩ ::
    ⟨some 22, .ext (.t 18) 0, none⟩ ::
    ⟨some 23, .ext (.t 18) 1, none⟩ ::
    ⟨some 8, .mv 0 (.t 22), none⟩ ::
    ⟨some 9, .mv 3 (.t 23), none⟩ ::
    []))
  (c25_17)
def c25 : HCode :=
  .seq (.region none (⟨some 4, .mv 1 (.c (.nils)), none⟩ ::
    ⟨some 5, .mv 0 (.c (.int .i64 0)), none⟩ ::
    ⟨some 6, .mv 1 (.c (.nils)), none⟩ ::
    ⟨some 7, .mv 0 (.c (.int .i64 0)), none⟩ ::
    []))
  (c25_18)
theorem fc25 : funCode Try.prog 25 = some (c25, [4, 5, 6, 7], 73) := by kernel_rfl

def c27_1 : HCode :=
  .seq (.region none (⟨some 6, .mv 0 (.c (.int .i64 0)), none⟩ ::
    ⟨some 7, .mv 0 (.c (.int .i64 1)), none⟩ ::
    []))
  (.ret)
def c27_2 : HCode :=
  .seq (.region none (⟨some 37, .mv 0 (.t 11), none⟩ ::
    ⟨some 6, .mv 0 (.c (.int .i64 0)), none⟩ ::
    ⟨some 7, .mv 0 (.t 37), none⟩ ::
    []))
  (.ret)
def c27_3 : HCode :=
  .region none (⟨some 42, .mv 0 (.t 13), none⟩ ::
    ⟨some 43, .bin .add (.t 42) (.c (.int .i64 1)), none⟩ ::
    ⟨some 13, .mv 0 (.t 43), none⟩ ::
    [])
def c27_4 : HCode :=
  .seq (.block 1 (.region none (⟨some 44, .mv 0 (.t 12), none⟩ ::
      ⟨some 45, .mv 1 (.t 0), none⟩ ::
      ⟨some 46, .mv 0 (.t 13), none⟩ ::
      ⟨some 47, .iaddr 1 (.t 45) (.t 46), none⟩ ::
      ⟨some 48, .load false 1 (.t 47), none⟩ ::
      ⟨some 49, .mm true (.c (.int .i64 0)) (.t 48), none⟩ ::
      ⟨some 50, .bin .add (.t 44) (.t 49), none⟩ ::
      ⟨some 12, .mv 0 (.t 50), none⟩ ::
      [])))
  (c27_3)
def c27_5 : HCode :=
  .seq (.seq (.region none (⟨some 38, .mv 0 (.t 13), none⟩ ::
    ⟨some 39, .mv 1 (.t 0), none⟩ ::
    ⟨some 40, .len (.t 39), none⟩ ::
    ⟨some 41, .bin .lss (.t 38) (.t 40), none⟩ ::
    []))
  (.cond (.t 41) (.skip) (.exit 0)))
  (c27_4)
def c27_6 : HCode :=
  .seq (.region none (⟨some 51, .mv 0 (.t 12), none⟩ ::
    ⟨some 52, .mv 0 (.t 10), none⟩ ::
    ⟨some 53, .bin .sub (.t 51) (.t 52), none⟩ ::
    ⟨some 6, .mv 0 (.t 53), none⟩ ::
    ⟨some 7, .mv 0 (.c (.int .i64 0)), none⟩ ::
    []))
  (.ret)
def c27_7 : HCode :=
  .seq (.seq (.region none (⟨some 13, .mv 0 (.c (.int .i64 0)), none⟩ ::
    []))
  (.block 0 (.loop (c27_5))))
  (c27_6)
def c27_8 : HCode :=
  .seq (.region none (⟨some 12, .mv 0 (.c (.int .i64 0)), none⟩ ::
    []))
  (c27_7)
def c27_9 : HCode :=
  .seq (.seq (.region none (⟨some 35, .mv 0 (.t 11), none⟩ ::
    ⟨some 36, .bin .neq (.t 35) (.c (.int .i64 0)), none⟩ ::
    []))
  (.cond (.t 36) (c27_2) (.skip)))
  (c27_8)
def c27_10 : HCode :=
  .seq (.region none (⟨some 25, .mv 0 (.t 8), none⟩ ::
    ⟨some 26, .mv 3 (.t 9), none⟩ ::
    ⟨some 27, .mv 0 (.t 8), none⟩ ::
    ⟨some 28, .bin .sub (.t 27) (.c (.int .i64 2)), none⟩ ::
    ⟨some 29, .mv 0 (.t 8), none⟩ ::
    ⟨some 30, .bin .sub (.t 29) (.c (.int .i64 1)), none⟩ ::
    ⟨some 31, .mv 1 (.t 2), none⟩ ::
    ⟨some 32, .call 49 [(.t 25), (.t 26), (.t 28), (.t 30), (.t 31)], none⟩ ::
    ⟨some 24, .mv 0 (.t 32), none⟩ ::
    ⟨some 33, .ext (.t 24) 0, none⟩ ::
    ⟨some 34, .ext (.t 24) 1, none⟩ ::
    ⟨some 10, .mv 0 (.t 33), none⟩ ::
    ⟨some 11, .mv 0 (.t 34), none⟩ ::
    []))
  (c27_9)
def c27_11 : HCode :=
  .seq (.region none (⟨some 19, .mv 1 (.t 0), none⟩ ::
    ⟨some 20, .mv 1 (.t 1), none⟩ ::
    ⟨some 21, .call 23 [(.t 19), (.t 20)], none⟩ ::
    ⟨some 18, .mv 0 (.t 21), none⟩ ::
    ⟨some 22, .ext (.t 18) 0, none⟩ ::
    ⟨some 23, .ext (.t 18) 1, none⟩ ::
    ⟨some 8, .mv 0 (.t 22), none⟩ ::
    ⟨some 9, .mv 3 (.t 23), none⟩ ::
    []))
  (c27_10)
def c27_12 : HCode :=
  .seq (.seq (.region none (⟨some 14, .mv 1 (.t 0), none⟩ ::
    ⟨some 15, .mv 1 (.t 1), none⟩ ::
    ⟨some 16, .call 14 [(.t 14), (.t 15)], none⟩ ::
    ⟨some 17, .un .not (.t 16), none⟩ ::
    []))
  (.cond (.t 17) (c27_1) (.skip)))
  (c27_11)
def c27 : HCode :=
  .seq (.region none (⟨some 6, .mv 0 (.c (.int .i64 0)), none⟩ ::
    ⟨some 7, .mv 0 (.c (.int .i64 0)), none⟩ ::
    []))
  (c27_12)
theorem fc27 : funCode Try.prog 27 = some (c27, [6, 7], 54) := by kernel_rfl

def c28_1 : HCode :=
  .seq (.region none (⟨some 6, .mv 0 (.c (.int .i64 0)), none⟩ ::
    ⟨some 7, .mv 0 (.c (.int .i64 1)), none⟩ ::
    []))
  (.ret)
def c28_2 : HCode :=
  .seq (.region none (⟨some 38, .mv 0 (.t 12), none⟩ ::
    ⟨some 6, .mv 0 (.c (.int .i64 0)), none⟩ ::
    ⟨some 7, .mv 0 (.t 38), none⟩ ::
    []))
  (.ret)
def c28_3 : HCode :=
  .region none (⟨some 47, .mv 0 (.t 13), none⟩ ::
    ⟨some 48, .mv 0 (.t 15), none⟩ ::
    ⟨some 49, .mm true (.c (.int .i64 0)) (.t 48), none⟩ ::
    ⟨some 50, .bin .add (.t 47) (.t 49), none⟩ ::
    ⟨some 13, .mv 0 (.t 50), none⟩ ::
    [])
def c28_4 : HCode :=
  .region none (⟨some 51, .bin .add (.t 43) (.c (.int .i64 1)), none⟩ ::
    ⟨some 43, .mv 0 (.t 51), none⟩ ::
    [])
def c28_5 : HCode :=
  .seq (.block 1 (.seq (.region none (⟨some 45, .iaddr 1 (.t 41) (.t 43), none⟩ ::
      ⟨some 46, .load false 1 (.t 45), none⟩ ::
      ⟨some 15, .mv 0 (.t 46), none⟩ ::
      []))
    (c28_3)))
  (c28_4)
def c28_6 : HCode :=
  .seq (.region none (⟨some 44, .bin .lss (.t 43) (.t 42), none⟩ ::
    []))
  (.seq (.cond (.t 44) (.skip) (.exit 0))
  (c28_5))
def c28_7 : HCode :=
  .seq (.region none (⟨some 52, .mv 0 (.t 13), none⟩ ::
    ⟨some 6, .mv 0 (.t 52), none⟩ ::
    ⟨some 7, .mv 0 (.c (.int .i64 0)), none⟩ ::
    []))
  (.ret)
def c28_8 : HCode :=
  .seq (.seq (.region none (⟨some 41, .mv 1 (.t 0), none⟩ ::
    ⟨some 42, .len (.t 41), none⟩ ::
    ⟨some 43, .mv 0 (.c (.int .i64 0)), none⟩ ::
    []))
  (.block 0 (.loop (c28_6))))
  (c28_7)
def c28_9 : HCode :=
  .seq (.region none (⟨some 39, .mv 0 (.t 11), none⟩ ::
    ⟨some 40, .un .neg (.t 39), none⟩ ::
    ⟨some 13, .mv 0 (.t 40), none⟩ ::
    []))
  (c28_8)
def c28_10 : HCode :=
  .seq (.seq (.region none (⟨some 36, .mv 0 (.t 12), none⟩ ::
    ⟨some 37, .bin .neq (.t 36) (.c (.int .i64 0)), none⟩ ::
    []))
  (.cond (.t 37) (c28_2) (.skip)))
  (c28_9)
def c28_11 : HCode :=
  .seq (.region none (⟨some 27, .mv 0 (.t 8), none⟩ ::
    ⟨some 28, .mv 3 (.t 9), none⟩ ::
    ⟨some 29, .mv 0 (.t 10), none⟩ ::
    ⟨some 30, .mv 0 (.t 10), none⟩ ::
    ⟨some 31, .bin .add (.t 30) (.c (.int .i64 1)), none⟩ ::
    ⟨some 32, .mv 1 (.t 2), none⟩ ::
    ⟨some 33, .call 50 [(.t 27), (.t 28), (.t 29), (.t 31), (.t 32)], none⟩ ::
    ⟨some 26, .mv 0 (.t 33), none⟩ ::
    ⟨some 34, .ext (.t 26) 0, none⟩ ::
    ⟨some 35, .ext (.t 26) 1, none⟩ ::
    ⟨some 11, .mv 0 (.t 34), none⟩ ::
    ⟨some 12, .mv 0 (.t 35), none⟩ ::
    []))
  (c28_10)
def c28_12 : HCode :=
  .seq (.region none (⟨some 24, .mv 1 (.t 0), none⟩ ::
    ⟨some 25, .len (.t 24), none⟩ ::
    ⟨some 10, .mv 0 (.t 25), none⟩ ::
    []))
  (c28_11)
def c28_13 : HCode :=
  .seq (.seq (.region none (⟨some 22, .mv 0 (.t 8), none⟩ ::
    ⟨some 23, .bin .eql (.t 22) (.c (.int .i64 0)), none⟩ ::
    []))
  (.cond (.t 23) (c28_1) (.skip)))
  (c28_12)
def c28_14 : HCode :=
  .seq (.region none (⟨some 17, .mv 1 (.t 0), none⟩ ::
    ⟨some 18, .mv 1 (.t 1), none⟩ ::
    ⟨some 19, .call 22 [(.t 17), (.t 18)], none⟩ ::
    ⟨some 16, .mv 0 (.t 19), none⟩ ::
    ⟨some 20, .ext (.t 16) 0, none⟩ ::
    ⟨some 21, .ext (.t 16) 1, none⟩ ::
    ⟨some 8, .mv 0 (.t 20), none⟩ ::
    ⟨some 9, .mv 3 (.t 21), none⟩ ::
    []))
  (c28_13)
def c28 : HCode :=
  .seq (.region none (⟨some 6, .mv 0 (.c (.int .i64 0)), none⟩ ::
    ⟨some 7, .mv 0 (.c (.int .i64 0)), none⟩ ::
    []))
  (c28_14)
theorem fc28 : funCode Try.prog 28 = some (c28, [6, 7], 53) := by kernel_rfl

def c29_1 : HCode :=
  .seq (.region none (⟨some 6, .mv 1 (.t 5), none⟩ ::
    ⟨some 7, .mv 1 (.t 0), none⟩ ::
    ⟨some 8, .mv 1 (.t 0), none⟩ ::
    ⟨some 9, .len (.t 8), none⟩ ::
    ⟨some 10, .mv 0 (.t 1), none⟩ ::
    ⟨some 11, .mm false (.t 9) (.t 10), none⟩ ::
    ⟨some 12, .slc 1 (.t 7) none (some (.t 11)), none⟩ ::
    ⟨some 13, .app true 1 8 (.t 6) (.t 12), none⟩ ::
    ⟨some 4, .mv 1 (.t 13), none⟩ ::
    []))
  (.ret)
def c29_2 : HCode :=
  .seq (.region none (⟨some 5, .mv 1 (.c (.nils)), none⟩ ::
    []))
  (c29_1)
def c29 : HCode :=
  .seq (.region none (⟨some 4, .mv 1 (.c (.nils)), none⟩ ::
    []))
  (c29_2)
theorem fc29 : funCode Try.prog 29 = some (c29, [4], 14) := by kernel_rfl

def c30_1 : HCode :=
  .region none (⟨some 7, .mv 0 (.t 0), none⟩ ::
    ⟨some 8, .bin .add (.t 7) (.c (.int .i64 1)), none⟩ ::
    ⟨some 9, .un .neg (.t 8), none⟩ ::
    ⟨some 0, .mv 0 (.t 9), none⟩ ::
    [])
def c30_2 : HCode :=
  .seq (.region none (⟨some 10, .mv 0 (.t 0), none⟩ ::
    ⟨some 11, .mv 0 (.t 1), none⟩ ::
    ⟨some 12, .bin .rem (.t 10) (.t 11), none⟩ ::
    ⟨some 4, .mv 0 (.t 12), none⟩ ::
    []))
  (.ret)
def c30_3 : HCode :=
  .seq (.seq (.region none (⟨some 5, .mv 0 (.t 0), none⟩ ::
    ⟨some 6, .bin .lss (.t 5) (.c (.int .i64 0)), none⟩ ::
    []))
  (.cond (.t 6) (c30_1) (.skip)))
  (c30_2)
def c30 : HCode :=
  .seq (.region none (⟨some 4, .mv 0 (.c (.int .i64 0)), none⟩ ::
    []))
  (c30_3)
theorem fc30 : funCode Try.prog 30 = some (c30, [4], 13) := by kernel_rfl

def c31_1 : HCode :=
  .region none (⟨some 46, .mv 1 (.t 9), none⟩ ::
    ⟨some 47, .mv 0 (.t 12), none⟩ ::
    ⟨some 48, .bin .quo (.t 47) (.c (.int .i64 7)), none⟩ ::
    ⟨some 49, .mv 0 (.t 8), none⟩ ::
    ⟨some 50, .call 36 [(.t 48), (.t 49)], none⟩ ::
    ⟨some 51, .call 51 [(.t 46), (.t 50)], none⟩ ::
    ⟨some 9, .mv 1 (.t 51), none⟩ ::
    [])
def c31_2 : HCode :=
  .region none (⟨some 52, .mv 1 (.t 9), none⟩ ::
    ⟨some 53, .mv 0 (.t 12), none⟩ ::
    ⟨some 54, .bin .quo (.t 53) (.c (.int .i64 7)), none⟩ ::
    ⟨some 55, .mv 0 (.t 1), none⟩ ::
    ⟨some 56, .mm false (.t 55) (.c (.int .i64 256)), none⟩ ::
    ⟨some 57, .call 36 [(.t 54), (.t 56)], none⟩ ::
    ⟨some 58, .call 51 [(.t 52), (.t 57)], none⟩ ::
    ⟨some 9, .mv 1 (.t 58), none⟩ ::
    [])
def c31_3 : HCode :=
  .seq (.region none (⟨some 39, .mv 0 (.t 8), none⟩ ::
    ⟨some 40, .bin .gtr (.t 39) (.c (.int .i64 0)), none⟩ ::
    ⟨some 41, .mv 0 (.t 40), none⟩ ::
    ⟨some 42, .mv 0 (.t 12), some (2, true)⟩ ::
    ⟨some 43, .call 36 [(.t 42), (.c (.int .i64 7))], some (2, true)⟩ ::
    ⟨some 44, .bin .lss (.t 43) (.c (.int .i64 6)), some (2, true)⟩ ::
    ⟨some 45, .pick (.t 41) (.t 44) (.c (.bool false)), none⟩ ::
    []))
  (.cond (.t 45) (c31_1) (c31_2))
def c31_4 : HCode :=
  .region none (⟨some 30, .mv 0 (.t 11), none⟩ ::
    ⟨some 31, .bin .add (.t 30) (.c (.int .i64 1)), none⟩ ::
    ⟨some 11, .mv 0 (.t 31), none⟩ ::
    [])
def c31_5 : HCode :=
  .seq (.block 3 (.seq (.region none (⟨some 32, .mv 1 (.t 0), none⟩ ::
      ⟨some 33, .mv 0 (.t 8), none⟩ ::
      ⟨some 34, .bin .mul (.c (.int .i64 5)) (.t 33), none⟩ ::
      ⟨some 35, .mv 0 (.t 11), none⟩ ::
      ⟨some 36, .bin .add (.t 34) (.t 35), none⟩ ::
      ⟨some 37, .bin .add (.t 36) (.c (.int .i64 1)), none⟩ ::
      ⟨some 38, .call 37 [(.t 32), (.t 37)], none⟩ ::
      ⟨some 12, .mv 0 (.t 38), none⟩ ::
      []))
    (c31_3)))
  (c31_4)
def c31_6 : HCode :=
  .seq (.seq (.region none (⟨some 27, .mv 0 (.t 11), none⟩ ::
    ⟨some 28, .mv 0 (.t 10), none⟩ ::
    ⟨some 29, .bin .lss (.t 27) (.t 28), none⟩ ::
    []))
  (.cond (.t 29) (.skip) (.exit 2)))
  (c31_5)
def c31_7 : HCode :=
  .region none (⟨some 63, .mv 1 (.t 7), none⟩ ::
    ⟨some 64, .mv 1 (.t 0), none⟩ ::
    ⟨some 65, .mv 0 (.t 8), none⟩ ::
    ⟨some 66, .bin .mul (.c (.int .i64 5)) (.t 65), none⟩ ::
    ⟨some 67, .bin .add (.t 66) (.c (.int .i64 4)), none⟩ ::
    ⟨some 68, .call 37 [(.t 64), (.t 67)], none⟩ ::
    ⟨some 69, .call 36 [(.t 68), (.c (.int .i64 11))], none⟩ ::
    ⟨some 70, .bin .eql (.t 69) (.c (.int .i64 0)), none⟩ ::
    ⟨some 71, .bsl 1 1 [(.t 70)], none⟩ ::
    ⟨some 72, .app true 1 1 (.t 63) (.t 71), none⟩ ::
    ⟨some 7, .mv 1 (.t 72), none⟩ ::
    [])
def c31_8 : HCode :=
  .seq (.region none (⟨some 59, .mv 1 (.t 6), none⟩ ::
    ⟨some 60, .mv 1 (.t 9), none⟩ ::
    ⟨some 61, .bsl 1 1 [(.t 60)], none⟩ ::
    ⟨some 62, .app false 1 24 (.t 59) (.t 61), none⟩ ::
    ⟨some 6, .mv 1 (.t 62), none⟩ ::
    []))
  (c31_7)
def c31_9 : HCode :=
  .seq (.seq (.region none (⟨some 11, .mv 0 (.c (.int .i64 0)), none⟩ ::
    []))
  (.block 2 (.loop (c31_6))))
  (c31_8)
def c31_10 : HCode :=
  .seq (.region none (⟨some 22, .mv 1 (.t 0), none⟩ ::
    ⟨some 23, .mv 0 (.t 8), none⟩ ::
    ⟨some 24, .bin .mul (.c (.int .i64 5)) (.t 23), none⟩ ::
    ⟨some 25, .call 37 [(.t 22), (.t 24)], none⟩ ::
    ⟨some 26, .call 36 [(.t 25), (.c (.int .i64 4))], none⟩ ::
    ⟨some 10, .mv 0 (.t 26), none⟩ ::
    []))
  (c31_9)
def c31_11 : HCode :=
  .region none (⟨some 20, .mv 0 (.t 8), none⟩ ::
    ⟨some 21, .bin .add (.t 20) (.c (.int .i64 1)), none⟩ ::
    ⟨some 8, .mv 0 (.t 21), none⟩ ::
    [])
def c31_12 : HCode :=
  .seq (.block 1 (.seq (.region none (⟨some 9, .mv 1 (.c (.nils)), none⟩ ::
      []))
    (c31_10)))
  (c31_11)
def c31_13 : HCode :=
  .seq (.seq (.region none (⟨some 13, .mv 0 (.t 8), none⟩ ::
    ⟨some 14, .mv 0 (.t 1), none⟩ ::
    ⟨some 15, .bin .lss (.t 13) (.t 14), none⟩ ::
    ⟨some 16, .mv 0 (.t 15), none⟩ ::
    ⟨some 17, .mv 0 (.t 8), some (3, true)⟩ ::
    ⟨some 18, .bin .lss (.t 17) (.c (.int .i64 256)), some (3, true)⟩ ::
    ⟨some 19, .pick (.t 16) (.t 18) (.c (.bool false)), none⟩ ::
    []))
  (.cond (.t 19) (.skip) (.exit 0)))
  (c31_12)
def c31_14 : HCode :=
  .seq (.region none (⟨some 73, .mv 1 (.t 6), none⟩ ::
    ⟨some 74, .mv 1 (.t 7), none⟩ ::
    ⟨some 4, .mv 1 (.t 73), none⟩ ::
    ⟨some 5, .mv 1 (.t 74), none⟩ ::
    []))
  (.ret)
def c31_15 : HCode :=
  .seq (.seq (.region none (⟨some 8, .mv 0 (.c (.int .i64 0)), none⟩ ::
    []))
  (.block 0 (.loop (c31_13))))
  (c31_14)
def c31_16 : HCode :=
  .seq (.region none (⟨some 7, .mv 1 (.c (.nils)), none⟩ ::
    []))
  (c31_15)
def c31_17 : HCode :=
  .seq (.region none (⟨some 6, .mv 1 (.c (.nils)), none⟩ ::
    []))
  (c31_16)
def c31 : HCode :=
  .seq (.region none (⟨some 4, .mv 1 (.c (.nils)), none⟩ ::
    ⟨some 5, .mv 1 (.c (.nils)), none⟩ ::
    []))
  (c31_17)
theorem fc31 : funCode Try.prog 31 = some (c31, [4, 5], 75) := by kernel_rfl

def c33_1 : HCode :=
  .seq (.region none (⟨some 8, .mv 1 (.c (.nils)), none⟩ ::
    ⟨some 9, .mv 0 (.c (.int .i64 1)), none⟩ ::
    []))
  (.ret)
def c33_2 : HCode :=
  .region none (⟨some 38, .mv 1 (.t 12), none⟩ ::
    ⟨some 39, .mv 0 (.t 14), none⟩ ::
    ⟨some 40, .bin .geq (.t 39) (.c (.int .i64 0)), none⟩ ::
    ⟨some 41, .bsl 1 1 [(.t 40)], none⟩ ::
    ⟨some 42, .app true 1 1 (.t 38) (.t 41), none⟩ ::
    ⟨some 12, .mv 1 (.t 42), none⟩ ::
    [])
def c33_3 : HCode :=
  .region none (⟨some 43, .bin .add (.t 34) (.c (.int .i64 1)), none⟩ ::
    ⟨some 34, .mv 0 (.t 43), none⟩ ::
    [])
def c33_4 : HCode :=
  .seq (.block 1 (.seq (.region none (⟨some 36, .iaddr 1 (.t 32) (.t 34), none⟩ ::
      ⟨some 37, .load false 1 (.t 36), none⟩ ::
      ⟨some 14, .mv 0 (.t 37), none⟩ ::
      []))
    (c33_2)))
  (c33_3)
def c33_5 : HCode :=
  .seq (.region none (⟨some 35, .bin .lss (.t 34) (.t 33), none⟩ ::
    []))
  (.seq (.cond (.t 35) (.skip) (.exit 0))
  (c33_4))
def c33_6 : HCode :=
  .seq (.region none (⟨some 44, .mv 1 (.t 12), none⟩ ::
    ⟨some 8, .mv 1 (.t 44), none⟩ ::
    ⟨some 9, .mv 0 (.c (.int .i64 0)), none⟩ ::
    []))
  (.ret)
def c33_7 : HCode :=
  .seq (.seq (.region none (⟨some 29, .mv 0 (.t 10), none⟩ ::
    ⟨some 30, .nilck (.t 29), none⟩ ::
    ⟨some 31, .faddr 3 (.t 30), none⟩ ::
    ⟨some 32, .load false 1 (.t 31), none⟩ ::
    ⟨some 33, .len (.t 32), none⟩ ::
    ⟨some 34, .mv 0 (.c (.int .i64 0)), none⟩ ::
    []))
  (.block 0 (.loop (c33_5))))
  (c33_6)
def c33_8 : HCode :=
  .seq (.region none (⟨some 12, .mv 1 (.c (.nils)), none⟩ ::
    []))
  (c33_7)
def c33_9 : HCode :=
  .seq (.region none (⟨some 22, .mv 0 (.t 0), none⟩ ::
    ⟨some 23, .mv 3 (.t 1), none⟩ ::
    ⟨some 24, .mv 0 (.t 2), none⟩ ::
    ⟨some 25, .mv 0 (.t 3), none⟩ ::
    ⟨some 26, .call 53 [(.t 22), (.t 23), (.t 24), (.t 25)], none⟩ ::
    ⟨some 21, .mv 0 (.t 26), none⟩ ::
    ⟨some 27, .ext (.t 21) 0, none⟩ ::
    ⟨some 28, .ext (.t 21) 1, none⟩ ::
    ⟨some 10, .mv 0 (.t 27), none⟩ ::
    ⟨some 11, .mv 0 (.t 28), none⟩ ::
    []))
  (c33_8)
def c33_10 : HCode :=
  .seq (.seq (.region none (⟨some 15, .mv 0 (.t 0), none⟩ ::
    ⟨some 16, .mv 3 (.t 1), none⟩ ::
    ⟨some 17, .mv 0 (.t 2), none⟩ ::
    ⟨some 18, .mv 0 (.t 3), none⟩ ::
    ⟨some 19, .call 52 [(.t 15), (.t 16), (.t 17), (.t 18)], none⟩ ::
    ⟨some 20, .un .not (.t 19), none⟩ ::
    []))
  (.cond (.t 20) (c33_1) (.skip)))
  (c33_9)
def c33 : HCode :=
  .seq (.region none (⟨some 8, .mv 1 (.c (.nils)), none⟩ ::
    ⟨some 9, .mv 0 (.c (.int .i64 0)), none⟩ ::
    []))
  (c33_10)
theorem fc33 : funCode Try.prog 33 = some (c33, [8, 9], 45) := by kernel_rfl

def c36_1 : HCode :=
  .seq (.region none (⟨some 4, .mv 0 (.c (.int .i64 0)), none⟩ ::
    []))
  (.ret)
def c36_2 : HCode :=
  .seq (.region none (⟨some 7, .mv 0 (.t 0), none⟩ ::
    ⟨some 8, .mv 0 (.t 1), none⟩ ::
    ⟨some 9, .bin .rem (.t 7) (.t 8), none⟩ ::
    ⟨some 10, .mv 0 (.t 1), none⟩ ::
    ⟨some 11, .bin .add (.t 9) (.t 10), none⟩ ::
    ⟨some 12, .mv 0 (.t 1), none⟩ ::
    ⟨some 13, .bin .rem (.t 11) (.t 12), none⟩ ::
    ⟨some 4, .mv 0 (.t 13), none⟩ ::
    []))
  (.ret)
def c36_3 : HCode :=
  .seq (.seq (.region none (⟨some 5, .mv 0 (.t 1), none⟩ ::
    ⟨some 6, .bin .leq (.t 5) (.c (.int .i64 0)), none⟩ ::
    []))
  (.cond (.t 6) (c36_1) (.skip)))
  (c36_2)
def c36 : HCode :=
  .seq (.region none (⟨some 4, .mv 0 (.c (.int .i64 0)), none⟩ ::
    []))
  (c36_3)
theorem fc36 : funCode Try.prog 36 = some (c36, [4], 14) := by kernel_rfl

def c37_1 : HCode :=
  .seq (.region none (⟨some 4, .mv 0 (.c (.int .i64 0)), none⟩ ::
    []))
  (.ret)
def c37_2 : HCode :=
  .seq (.region (some [0, 0, 0, 4, 14, 31, 63, 127, 0, 0, 512, 1792, 3840, 8191, 16383]) (⟨some 8, .mv 1 (.t 0), none⟩ ::
    ⟨some 9, .mv 0 (.t 1), none⟩ ::
    ⟨some 10, .mv 1 (.t 0), none⟩ ::
    ⟨some 11, .len (.t 10), none⟩ ::
    ⟨some 12, .bin .rem (.t 9) (.t 11), none⟩ ::
    ⟨some 13, .iaddr 1 (.t 8) (.t 12), none⟩ ::
    ⟨some 14, .load false 1 (.t 13), none⟩ ::
    ⟨some 15, .bin .rem (.t 14) (.c (.int .i64 1048576)), none⟩ ::
    ⟨some 16, .mv 0 (.t 1), none⟩ ::
    ⟨some 17, .mv 1 (.t 0), none⟩ ::
    ⟨some 18, .len (.t 17), none⟩ ::
    ⟨some 19, .bin .quo (.t 16) (.t 18), none⟩ ::
    ⟨some 20, .bin .mul (.c (.int .i64 7)) (.t 19), none⟩ ::
    ⟨some 21, .bin .add (.t 15) (.t 20), none⟩ ::
    ⟨some 4, .mv 0 (.t 21), none⟩ ::
    []))
  (.ret)
def c37_3 : HCode :=
  .seq (.seq (.region none (⟨some 5, .mv 1 (.t 0), none⟩ ::
    ⟨some 6, .len (.t 5), none⟩ ::
    ⟨some 7, .bin .eql (.t 6) (.c (.int .i64 0)), none⟩ ::
    []))
  (.cond (.t 7) (c37_1) (.skip)))
  (c37_2)
def c37 : HCode :=
  .seq (.region none (⟨some 4, .mv 0 (.c (.int .i64 0)), none⟩ ::
    []))
  (c37_3)
theorem fc37 : funCode Try.prog 37 = some (c37, [4], 22) := by kernel_rfl

def c39_1 : HCode :=
  .seq (.region none (⟨some 4, .mv 0 (.c (.bool false)), none⟩ ::
    []))
  (.ret)
def c39_2 : HCode :=
  .seq (.region none (⟨some 4, .mv 0 (.c (.bool false)), none⟩ ::
    []))
  (.ret)
def c39_3 : HCode :=
  .seq (.region none (⟨some 40, .mv 0 (.t 7), none⟩ ::
    ⟨some 41, .bin .lss (.t 40) (.c (.int .i64 0)), none⟩ ::
    ⟨some 42, .mv 0 (.t 41), none⟩ ::
    ⟨some 43, .mv 0 (.t 7), some (2, false)⟩ ::
    ⟨some 44, .mv 1 (.t 0), some (2, false)⟩ ::
    ⟨some 45, .len (.t 44), some (2, false)⟩ ::
    ⟨some 46, .bin .geq (.t 43) (.t 45), some (2, false)⟩ ::
    ⟨some 47, .pick (.t 42) (.c (.bool true)) (.t 46), none⟩ ::
    ⟨some 48, .mv 0 (.t 47), none⟩ ::
    ⟨some 49, .mv 0 (.t 6), some (8, false)⟩ ::
    ⟨some 50, .bin .gtr (.t 49) (.c (.int .i64 0)), some (8, false)⟩ ::
    ⟨some 51, .mv 0 (.t 50), some (8, false)⟩ ::
    ⟨some 52, .mv 0 (.t 7), some (11, true)⟩ ::
    ⟨some 53, .mv 1 (.t 0), some (11, true)⟩ ::
    ⟨some 54, .mv 0 (.t 5), some (11, true)⟩ ::
    ⟨some 55, .iaddr 1 (.t 53) (.t 54), some (11, true)⟩ ::
    ⟨some 56, .load false 1 (.t 55), some (11, true)⟩ ::
    ⟨some 57, .mv 0 (.t 6), some (11, true)⟩ ::
    ⟨some 58, .bin .sub (.t 57) (.c (.int .i64 1)), some (11, true)⟩ ::
    ⟨some 59, .iaddr 1 (.t 56) (.t 58), some (11, true)⟩ ::
    ⟨some 60, .load false 1 (.t 59), some (11, true)⟩ ::
    ⟨some 61, .bin .leq (.t 52) (.t 60), some (11, true)⟩ ::
    ⟨some 62, .pick (.t 51) (.t 61) (.c (.bool false)), some (8, false)⟩ ::
    ⟨some 63, .pick (.t 48) (.c (.bool true)) (.t 62), none⟩ ::
    []))
  (.cond (.t 63) (c39_2) (.skip))
def c39_4 : HCode :=
  .region none (⟨some 31, .mv 0 (.t 6), none⟩ ::
    ⟨some 32, .bin .add (.t 31) (.c (.int .i64 1)), none⟩ ::
    ⟨some 6, .mv 0 (.t 32), none⟩ ::
    [])
def c39_5 : HCode :=
  .seq (.block 3 (.seq (.region none (⟨some 33, .mv 1 (.t 0), none⟩ ::
      ⟨some 34, .mv 0 (.t 5), none⟩ ::
      ⟨some 35, .iaddr 1 (.t 33) (.t 34), none⟩ ::
      ⟨some 36, .load false 1 (.t 35), none⟩ ::
      ⟨some 37, .mv 0 (.t 6), none⟩ ::
      ⟨some 38, .iaddr 1 (.t 36) (.t 37), none⟩ ::
      ⟨some 39, .load false 1 (.t 38), none⟩ ::
      ⟨some 7, .mv 0 (.t 39), none⟩ ::
      []))
    (c39_3)))
  (c39_4)
def c39_6 : HCode :=
  .seq (.seq (.region none (⟨some 24, .mv 0 (.t 6), none⟩ ::
    ⟨some 25, .mv 1 (.t 0), none⟩ ::
    ⟨some 26, .mv 0 (.t 5), none⟩ ::
    ⟨some 27, .iaddr 1 (.t 25) (.t 26), none⟩ ::
    ⟨some 28, .load false 1 (.t 27), none⟩ ::
    ⟨some 29, .len (.t 28), none⟩ ::
    ⟨some 30, .bin .lss (.t 24) (.t 29), none⟩ ::
    []))
  (.cond (.t 30) (.skip) (.exit 2)))
  (c39_5)
def c39_7 : HCode :=
  .region none (⟨some 22, .mv 0 (.t 5), none⟩ ::
    ⟨some 23, .bin .add (.t 22) (.c (.int .i64 1)), none⟩ ::
    ⟨some 5, .mv 0 (.t 23), none⟩ ::
    [])
def c39_8 : HCode :=
  .seq (.block 1 (.seq (.region none (⟨some 6, .mv 0 (.c (.int .i64 0)), none⟩ ::
      []))
    (.block 2 (.loop (c39_6)))))
  (c39_7)
def c39_9 : HCode :=
  .seq (.seq (.region none (⟨some 18, .mv 0 (.t 5), none⟩ ::
    ⟨some 19, .mv 1 (.t 0), none⟩ ::
    ⟨some 20, .len (.t 19), none⟩ ::
    ⟨some 21, .bin .lss (.t 18) (.t 20), none⟩ ::
    []))
  (.cond (.t 21) (.skip) (.exit 0)))
  (c39_8)
def c39_10 : HCode :=
  .seq (.region none (⟨some 4, .mv 0 (.c (.bool true)), none⟩ ::
    []))
  (.ret)
def c39_11 : HCode :=
  .seq (.seq (.region none (⟨some 5, .mv 0 (.c (.int .i64 0)), none⟩ ::
    []))
  (.block 0 (.loop (c39_9))))
  (c39_10)
def c39_12 : HCode :=
  .seq (.seq (.region none (⟨some 8, .mv 1 (.t 0), none⟩ ::
    ⟨some 9, .len (.t 8), none⟩ ::
    ⟨some 10, .bin .gtr (.t 9) (.c (.int .i64 256)), none⟩ ::
    ⟨some 11, .mv 0 (.t 10), none⟩ ::
    ⟨some 12, .mv 1 (.t 1), some (3, false)⟩ ::
    ⟨some 13, .len (.t 12), some (3, false)⟩ ::
    ⟨some 14, .mv 1 (.t 0), some (3, false)⟩ ::
    ⟨some 15, .len (.t 14), some (3, false)⟩ ::
    ⟨some 16, .bin .neq (.t 13) (.t 15), some (3, false)⟩ ::
    ⟨some 17, .pick (.t 11) (.c (.bool true)) (.t 16), none⟩ ::
    []))
  (.cond (.t 17) (c39_1) (.skip)))
  (c39_11)
def c39 : HCode :=
  .seq (.region none (⟨some 4, .mv 0 (.c (.bool false)), none⟩ ::
    []))
  (c39_12)
theorem fc39 : funCode Try.prog 39 = some (c39, [4], 64) := by kernel_rfl

def c40_1 : HCode :=
  .seq (.region none (⟨some 5, .mv 1 (.t 0), none⟩ ::
    ⟨some 6, .len (.t 5), none⟩ ::
    ⟨some 7, .load false 1 (.t 3), none⟩ ::
    ⟨some 8, .len (.t 7), none⟩ ::
    ⟨some 9, .bin .eql (.t 6) (.t 8), none⟩ ::
    ⟨some 10, .mv 0 (.t 9), none⟩ ::
    ⟨some 11, .mv 1 (.t 0), some (5, true)⟩ ::
    ⟨some 12, .mkfn 57 [(.t 3)], some (5, true)⟩ ::
    ⟨some 13, .call 56 [(.t 11), (.t 12)], some (5, true)⟩ ::
    ⟨some 14, .un .not (.t 13), some (5, true)⟩ ::
    ⟨some 15, .pick (.t 10) (.t 14) (.c (.bool false)), none⟩ ::
    ⟨some 4, .mv 0 (.t 15), none⟩ ::
    []))
  (.ret)
def c40 : HCode :=
  .seq (.region none (⟨some 3, .newv 1 (.t 1), none⟩ ::
    ⟨some 4, .mv 0 (.c (.bool false)), none⟩ ::
    []))
  (c40_1)
theorem fc40 : funCode Try.prog 40 = some (c40, [4], 16) := by kernel_rfl

def c41_1 : HCode :=
  .seq (.region none (⟨some 5, .mv 1 (.t 0), none⟩ ::
    ⟨some 6, .mv 0 (.t 1), none⟩ ::
    ⟨some 7, .call 59 [(.t 5), (.t 6)], none⟩ ::
    ⟨some 8, .bin .geq (.t 7) (.c (.int .i64 0)), none⟩ ::
    ⟨some 4, .mv 0 (.t 8), none⟩ ::
    []))
  (.ret)
def c41 : HCode :=
  .seq (.region none (⟨some 4, .mv 0 (.c (.bool false)), none⟩ ::
    []))
  (c41_1)
theorem fc41 : funCode Try.prog 41 = some (c41, [4], 9) := by kernel_rfl

def c42_1 : HCode :=
  .seq (.region none (⟨some 4, .load false 1 (.t 1), none⟩ ::
    ⟨some 5, .mv 0 (.t 0), none⟩ ::
    ⟨some 6, .iaddr 1 (.t 4) (.t 5), none⟩ ::
    ⟨some 7, .load false 1 (.t 6), none⟩ ::
    ⟨some 8, .un .not (.t 7), none⟩ ::
    ⟨some 3, .mv 0 (.t 8), none⟩ ::
    []))
  (.ret)
def c42 : HCode :=
  .seq (.region none (⟨some 3, .mv 0 (.c (.bool false)), none⟩ ::
    []))
  (c42_1)
theorem fc42 : funCode Try.prog 42 = some (c42, [3], 9) := by kernel_rfl

def c44_1 : HCode :=
  .region none (⟨some 12, .mv 0 (.t 0), none⟩ ::
    ⟨some 13, .call 45 [(.t 2), (.t 12)], none⟩ ::
    [])
def c44_2 : HCode :=
  .seq (.region none (⟨some 9, .load false 1 (.t 1), none⟩ ::
    ⟨some 10, .mv 0 (.t 0), none⟩ ::
    ⟨some 11, .iaddr 1 (.t 9) (.t 10), none⟩ ::
    ⟨none, .store true 1 (.t 11) (.c (.bool true)), none⟩ ::
    []))
  (c44_1)
def c44 : HCode :=
  .seq (.region none (⟨some 4, .load false 1 (.t 1), none⟩ ::
    ⟨some 5, .mv 0 (.t 0), none⟩ ::
    ⟨some 6, .iaddr 1 (.t 4) (.t 5), none⟩ ::
    ⟨some 7, .load false 1 (.t 6), none⟩ ::
    ⟨some 8, .un .not (.t 7), none⟩ ::
    []))
  (.cond (.t 8) (c44_2) (.skip))
theorem fc44 : funCode Try.prog 44 = some (c44, [], 14) := by kernel_rfl

def c45 : HCode :=
  .region none (⟨some 4, .mv 0 (.t 0), none⟩ ::
    ⟨some 5, .mv 0 (.t 0), none⟩ ::
    ⟨some 6, .nilck (.t 5), none⟩ ::
    ⟨some 7, .faddr 0 (.t 6), none⟩ ::
    ⟨some 8, .load false 1 (.t 7), none⟩ ::
    ⟨some 9, .mv 0 (.t 1), none⟩ ::
    ⟨some 10, .bsl 1 1 [(.t 9)], none⟩ ::
    ⟨some 11, .app true 1 8 (.t 8) (.t 10), none⟩ ::
    ⟨some 12, .nilck (.t 4), none⟩ ::
    ⟨some 13, .faddr 0 (.t 12), none⟩ ::
    ⟨none, .store false 1 (.t 13) (.t 11), none⟩ ::
    [])
theorem fc45 : funCode Try.prog 45 = some (c45, [], 14) := by kernel_rfl

def c46_1 : HCode :=
  .seq (.region none (⟨some 30, .mv 0 (.t 3), none⟩ ::
    ⟨some 2, .mv 0 (.t 30), none⟩ ::
    []))
  (.ret)
def c46_2 : HCode :=
  .seq (.region (some [0, 0, 2, 6, 14, 0, 32, 96, 224, 480, 992, 2046, 4095, 8191, 16383]) (⟨some 16, .mv 0 (.t 0), none⟩ ::
    ⟨some 17, .mv 0 (.t 0), none⟩ ::
    ⟨some 18, .nilck (.t 17), none⟩ ::
    ⟨some 19, .faddr 0 (.t 18), none⟩ ::
    ⟨some 20, .load false 1 (.t 19), none⟩ ::
    ⟨some 21, .mv 0 (.t 0), none⟩ ::
    ⟨some 22, .nilck (.t 21), none⟩ ::
    ⟨some 23, .faddr 0 (.t 22), none⟩ ::
    ⟨some 24, .load false 1 (.t 23), none⟩ ::
    ⟨some 25, .len (.t 24), none⟩ ::
    ⟨some 26, .bin .sub (.t 25) (.c (.int .i64 1)), none⟩ ::
    ⟨some 27, .slc 1 (.t 20) none (some (.t 26)), none⟩ ::
    ⟨some 28, .nilck (.t 16), none⟩ ::
    ⟨some 29, .faddr 0 (.t 28), none⟩ ::
    ⟨none, .store false 1 (.t 29) (.t 27), none⟩ ::
    []))
  (c46_1)
def c46_3 : HCode :=
  .seq (.region (some [0, 1, 3, 7, 0, 16, 48, 112, 240, 496, 1023, 2047, 4095]) (⟨some 4, .mv 0 (.t 0), none⟩ ::
    ⟨some 5, .nilck (.t 4), none⟩ ::
    ⟨some 6, .faddr 0 (.t 5), none⟩ ::
    ⟨some 7, .load false 1 (.t 6), none⟩ ::
    ⟨some 8, .mv 0 (.t 0), none⟩ ::
    ⟨some 9, .nilck (.t 8), none⟩ ::
    ⟨some 10, .faddr 0 (.t 9), none⟩ ::
    ⟨some 11, .load false 1 (.t 10), none⟩ ::
    ⟨some 12, .len (.t 11), none⟩ ::
    ⟨some 13, .bin .sub (.t 12) (.c (.int .i64 1)), none⟩ ::
    ⟨some 14, .iaddr 1 (.t 7) (.t 13), none⟩ ::
    ⟨some 15, .load false 1 (.t 14), none⟩ ::
    ⟨some 3, .mv 0 (.t 15), none⟩ ::
    []))
  (c46_2)
def c46 : HCode :=
  .seq (.region none (⟨some 2, .mv 0 (.c (.int .i64 0)), none⟩ ::
    []))
  (c46_3)
theorem fc46 : funCode Try.prog 46 = some (c46, [2], 31) := by kernel_rfl

def c47_1 : HCode :=
  .seq (.region none (⟨some 6, .mv 0 (.c (.int .i64 0)), none⟩ ::
    []))
  (.ret)
def c47_2 : HCode :=
  .seq (.region none (⟨some 15, .mv 1 (.t 0), none⟩ ::
    ⟨some 16, .mv 0 (.t 1), none⟩ ::
    ⟨some 17, .iaddr 1 (.t 15) (.t 16), none⟩ ::
    ⟨some 18, .load false 1 (.t 17), none⟩ ::
    ⟨some 19, .mv 0 (.t 2), none⟩ ::
    ⟨some 20, .call 30 [(.t 18), (.t 19)], none⟩ ::
    ⟨some 6, .mv 0 (.t 20), none⟩ ::
    []))
  (.ret)
def c47_3 : HCode :=
  .seq (.seq (.region none (⟨some 7, .mv 0 (.t 1), none⟩ ::
    ⟨some 8, .bin .lss (.t 7) (.c (.int .i64 0)), none⟩ ::
    ⟨some 9, .mv 0 (.t 8), none⟩ ::
    ⟨some 10, .mv 0 (.t 1), some (2, false)⟩ ::
    ⟨some 11, .mv 1 (.t 0), some (2, false)⟩ ::
    ⟨some 12, .len (.t 11), some (2, false)⟩ ::
    ⟨some 13, .bin .geq (.t 10) (.t 12), some (2, false)⟩ ::
    ⟨some 14, .pick (.t 9) (.c (.bool true)) (.t 13), none⟩ ::
    []))
  (.cond (.t 14) (c47_1) (.skip)))
  (c47_2)
def c47 : HCode :=
  .seq (.region none (⟨some 6, .mv 0 (.c (.int .i64 0)), none⟩ ::
    []))
  (c47_3)
theorem fc47 : funCode Try.prog 47 = some (c47, [6], 21) := by kernel_rfl

def c48_1 : HCode :=
  .seq (.region none (⟨some 8, .mv 0 (.c (.int .i64 0)), none⟩ ::
    ⟨some 9, .mv 1 (.c (.nils)), none⟩ ::
    ⟨some 10, .mv 0 (.c (.int .i64 1)), none⟩ ::
    []))
  (.ret)
def c48_2 : HCode :=
  .region (some [0, 0, 2, 0, 8, 24, 56, 120, 0, 256, 1016, 2040, 4094, 8190, 16382, 32767, 65535]) (⟨some 37, .mv 1 (.t 13), none⟩ ::
    ⟨some 38, .faddr 2 (.t 15), none⟩ ::
    ⟨some 39, .load false 1 (.t 38), none⟩ ::
    ⟨some 40, .mv 0 (.t 11), none⟩ ::
    ⟨some 41, .nilck (.t 40), none⟩ ::
    ⟨some 42, .faddr 0 (.t 41), none⟩ ::
    ⟨some 43, .faddr 1 (.t 42), none⟩ ::
    ⟨some 44, .load false 1 (.t 43), none⟩ ::
    ⟨some 45, .mv 0 (.t 14), none⟩ ::
    ⟨some 46, .bin .mul (.c (.int .i64 2)) (.t 45), none⟩ ::
    ⟨some 47, .iaddr 1 (.t 44) (.t 46), none⟩ ::
    ⟨some 48, .load false 1 (.t 47), none⟩ ::
    ⟨some 49, .bin .sub (.t 39) (.t 48), none⟩ ::
    ⟨some 50, .mm true (.c (.int .i64 0)) (.t 49), none⟩ ::
    ⟨some 51, .bsl 1 1 [(.t 50)], none⟩ ::
    ⟨some 52, .app true 1 8 (.t 37) (.t 51), none⟩ ::
    ⟨some 13, .mv 1 (.t 52), none⟩ ::
    [])
def c48_3 : HCode :=
  .region none (⟨some 53, .bin .add (.t 32) (.c (.int .i64 1)), none⟩ ::
    ⟨some 32, .mv 0 (.t 53), none⟩ ::
    [])
def c48_4 : HCode :=
  .seq (.block 1 (.seq (.region none (⟨some 34, .mv 0 (.t 32), none⟩ ::
      ⟨some 35, .iaddr 3 (.t 30) (.t 32), none⟩ ::
      ⟨some 36, .load true 3 (.t 35), none⟩ ::
      ⟨some 15, .newz [.int .i64 0, .int .i64 0, .int .i64 0], none⟩ ::
      ⟨some 14, .mv 0 (.t 34), none⟩ ::
      ⟨none, .store true 3 (.t 15) (.t 36), none⟩ ::
      []))
    (c48_2)))
  (c48_3)
def c48_5 : HCode :=
  .seq (.region none (⟨some 33, .bin .lss (.t 32) (.t 31), none⟩ ::
    []))
  (.seq (.cond (.t 33) (.skip) (.exit 0))
  (c48_4))
def c48_6 : HCode :=
  .seq (.region none (⟨some 54, .mv 0 (.t 12), none⟩ ::
    ⟨some 55, .mv 1 (.t 13), none⟩ ::
    ⟨some 8, .mv 0 (.t 54), none⟩ ::
    ⟨some 9, .mv 1 (.t 55), none⟩ ::
    ⟨some 10, .mv 0 (.c (.int .i64 0)), none⟩ ::
    []))
  (.ret)
def c48_7 : HCode :=
  .seq (.seq (.region none (⟨some 30, .mv 3 (.t 1), none⟩ ::
    ⟨some 31, .len (.t 30), none⟩ ::
    ⟨some 32, .mv 0 (.c (.int .i64 0)), none⟩ ::
    []))
  (.block 0 (.loop (c48_5))))
  (c48_6)
def c48_8 : HCode :=
  .seq (.region none (⟨some 13, .mv 1 (.c (.nils)), none⟩ ::
    []))
  (c48_7)
def c48_9 : HCode :=
  .seq (.region none (⟨some 23, .mv 0 (.t 0), none⟩ ::
    ⟨some 24, .mv 3 (.t 1), none⟩ ::
    ⟨some 25, .mv 0 (.t 2), none⟩ ::
    ⟨some 26, .mv 0 (.t 3), none⟩ ::
    ⟨some 27, .call 53 [(.t 23), (.t 24), (.t 25), (.t 26)], none⟩ ::
    ⟨some 22, .mv 0 (.t 27), none⟩ ::
    ⟨some 28, .ext (.t 22) 0, none⟩ ::
    ⟨some 29, .ext (.t 22) 1, none⟩ ::
    ⟨some 11, .mv 0 (.t 28), none⟩ ::
    ⟨some 12, .mv 0 (.t 29), none⟩ ::
    []))
  (c48_8)
def c48_10 : HCode :=
  .seq (.seq (.region none (⟨some 16, .mv 0 (.t 0), none⟩ ::
    ⟨some 17, .mv 3 (.t 1), none⟩ ::
    ⟨some 18, .mv 0 (.t 2), none⟩ ::
    ⟨some 19, .mv 0 (.t 3), none⟩ ::
    ⟨some 20, .call 52 [(.t 16), (.t 17), (.t 18), (.t 19)], none⟩ ::
    ⟨some 21, .un .not (.t 20), none⟩ ::
    []))
  (.cond (.t 21) (c48_1) (.skip)))
  (c48_9)
def c48 : HCode :=
  .seq (.region none (⟨some 8, .mv 0 (.c (.int .i64 0)), none⟩ ::
    ⟨some 9, .mv 1 (.c (.nils)), none⟩ ::
    ⟨some 10, .mv 0 (.c (.int .i64 0)), none⟩ ::
    []))
  (c48_10)
theorem fc48 : funCode Try.prog 48 = some (c48, [8, 9, 10], 56) := by kernel_rfl

def c49_1 : HCode :=
  .seq (.region none (⟨some 10, .mv 0 (.c (.int .i64 0)), none⟩ ::
    ⟨some 11, .mv 0 (.c (.int .i64 1)), none⟩ ::
    []))
  (.ret)
def c49_2 : HCode :=
  .seq (.region none (⟨some 10, .mv 0 (.c (.int .i64 0)), none⟩ ::
    ⟨some 11, .mv 0 (.c (.int .i64 5)), none⟩ ::
    []))
  (.ret)
def c49_3 : HCode :=
  .region (some [0, 0, 0, 6, 14, 30, 0, 0, 0, 384, 896, 1920, 4032, 8128, 0, 0, 49152, 114688, 262080, 524287, 1048575]) (⟨some 73, .mv 1 (.t 12), none⟩ ::
    ⟨some 74, .mv 3 (.t 1), none⟩ ::
    ⟨some 75, .mv 0 (.t 13), none⟩ ::
    ⟨some 76, .iaddr 3 (.t 74) (.t 75), none⟩ ::
    ⟨some 77, .faddr 1 (.t 76), none⟩ ::
    ⟨some 78, .load false 1 (.t 77), none⟩ ::
    ⟨some 79, .mv 1 (.t 12), none⟩ ::
    ⟨some 80, .mv 3 (.t 1), none⟩ ::
    ⟨some 81, .mv 0 (.t 13), none⟩ ::
    ⟨some 82, .iaddr 3 (.t 80) (.t 81), none⟩ ::
    ⟨some 83, .faddr 1 (.t 82), none⟩ ::
    ⟨some 84, .load false 1 (.t 83), none⟩ ::
    ⟨some 85, .iaddr 1 (.t 79) (.t 84), none⟩ ::
    ⟨some 86, .load false 1 (.t 85), none⟩ ::
    ⟨some 87, .mv 1 (.t 4), none⟩ ::
    ⟨some 88, .mv 0 (.t 13), none⟩ ::
    ⟨some 89, .iaddr 1 (.t 87) (.t 88), none⟩ ::
    ⟨some 90, .load false 1 (.t 89), none⟩ ::
    ⟨some 91, .bin .sub (.t 86) (.t 90), none⟩ ::
    ⟨some 92, .iaddr 1 (.t 73) (.t 78), none⟩ ::
    ⟨none, .store true 1 (.t 92) (.t 91), none⟩ ::
    [])
def c49_4 : HCode :=
  .seq (.region (some [0, 0, 0, 6, 14, 30, 0, 0, 0, 384, 896, 1920, 4032, 8128, 0, 0, 49152, 114688, 262080, 524287, 1048575]) (⟨some 53, .mv 1 (.t 12), none⟩ ::
    ⟨some 54, .mv 3 (.t 1), none⟩ ::
    ⟨some 55, .mv 0 (.t 13), none⟩ ::
    ⟨some 56, .iaddr 3 (.t 54) (.t 55), none⟩ ::
    ⟨some 57, .faddr 0 (.t 56), none⟩ ::
    ⟨some 58, .load false 1 (.t 57), none⟩ ::
    ⟨some 59, .mv 1 (.t 12), none⟩ ::
    ⟨some 60, .mv 3 (.t 1), none⟩ ::
    ⟨some 61, .mv 0 (.t 13), none⟩ ::
    ⟨some 62, .iaddr 3 (.t 60) (.t 61), none⟩ ::
    ⟨some 63, .faddr 0 (.t 62), none⟩ ::
    ⟨some 64, .load false 1 (.t 63), none⟩ ::
    ⟨some 65, .iaddr 1 (.t 59) (.t 64), none⟩ ::
    ⟨some 66, .load false 1 (.t 65), none⟩ ::
    ⟨some 67, .mv 1 (.t 4), none⟩ ::
    ⟨some 68, .mv 0 (.t 13), none⟩ ::
    ⟨some 69, .iaddr 1 (.t 67) (.t 68), none⟩ ::
    ⟨some 70, .load false 1 (.t 69), none⟩ ::
    ⟨some 71, .bin .add (.t 66) (.t 70), none⟩ ::
    ⟨some 72, .iaddr 1 (.t 53) (.t 58), none⟩ ::
    ⟨none, .store true 1 (.t 72) (.t 71), none⟩ ::
    []))
  (c49_3)
def c49_5 : HCode :=
  .region none (⟨some 34, .mv 0 (.t 13), none⟩ ::
    ⟨some 35, .bin .add (.t 34) (.c (.int .i64 1)), none⟩ ::
    ⟨some 13, .mv 0 (.t 35), none⟩ ::
    [])
def c49_6 : HCode :=
  .seq (.block 1 (.seq (.seq (.region (some [0, 0, 3, 7, 15, 31, 63, 63, 255, 511, 63, 63, 3135, 7231, 15423, 32767, 65535]) (⟨some 36, .mv 1 (.t 4), none⟩ ::
      ⟨some 37, .mv 0 (.t 13), none⟩ ::
      ⟨some 38, .iaddr 1 (.t 36) (.t 37), none⟩ ::
      ⟨some 39, .load false 1 (.t 38), none⟩ ::
      ⟨some 40, .bin .lss (.t 39) (.c (.int .i64 0)), none⟩ ::
      ⟨some 41, .mv 0 (.t 40), none⟩ ::
      ⟨some 42, .mv 1 (.t 4), some (5, false)⟩ ::
      ⟨some 43, .mv 0 (.t 13), some (5, false)⟩ ::
      ⟨some 44, .iaddr 1 (.t 42) (.t 43), some (5, false)⟩ ::
      ⟨some 45, .load false 1 (.t 44), some (5, false)⟩ ::
      ⟨some 46, .mv 3 (.t 1), some (5, false)⟩ ::
      ⟨some 47, .mv 0 (.t 13), some (5, false)⟩ ::
      ⟨some 48, .iaddr 3 (.t 46) (.t 47), some (5, false)⟩ ::
      ⟨some 49, .faddr 2 (.t 48), some (5, false)⟩ ::
      ⟨some 50, .load false 1 (.t 49), some (5, false)⟩ ::
      ⟨some 51, .bin .gtr (.t 45) (.t 50), some (5, false)⟩ ::
      ⟨some 52, .pick (.t 41) (.c (.bool true)) (.t 51), none⟩ ::
      []))
    (.cond (.t 52) (c49_2) (.skip)))
    (c49_4)))
  (c49_5)
def c49_7 : HCode :=
  .seq (.seq (.region none (⟨some 30, .mv 0 (.t 13), none⟩ ::
    ⟨some 31, .mv 3 (.t 1), none⟩ ::
    ⟨some 32, .len (.t 31), none⟩ ::
    ⟨some 33, .bin .lss (.t 30) (.t 32), none⟩ ::
    []))
  (.cond (.t 33) (.skip) (.exit 0)))
  (c49_6)
def c49_8 : HCode :=
  .seq (.region none (⟨some 10, .mv 0 (.c (.int .i64 0)), none⟩ ::
    ⟨some 11, .mv 0 (.c (.int .i64 24)), none⟩ ::
    []))
  (.ret)
def c49_9 : HCode :=
  .region none (⟨some 96, .mv 0 (.t 14), none⟩ ::
    ⟨some 97, .bin .add (.t 96) (.c (.int .i64 1)), none⟩ ::
    ⟨some 14, .mv 0 (.t 97), none⟩ ::
    [])
def c49_10 : HCode :=
  .seq (.block 3 (.seq (.region none (⟨some 98, .mv 0 (.t 14), none⟩ ::
      ⟨some 99, .mv 0 (.t 2), none⟩ ::
      ⟨some 100, .bin .neq (.t 98) (.t 99), none⟩ ::
      ⟨some 101, .mv 0 (.t 100), none⟩ ::
      ⟨some 102, .mv 0 (.t 14), some (3, true)⟩ ::
      ⟨some 103, .mv 0 (.t 3), some (3, true)⟩ ::
      ⟨some 104, .bin .neq (.t 102) (.t 103), some (3, true)⟩ ::
      ⟨some 105, .pick (.t 101) (.t 104) (.c (.bool false)), none⟩ ::
      ⟨some 106, .mv 0 (.t 105), none⟩ ::
      ⟨some 107, .mv 1 (.t 12), some (8, true)⟩ ::
      ⟨some 108, .mv 0 (.t 14), some (8, true)⟩ ::
      ⟨some 109, .iaddr 1 (.t 107) (.t 108), some (8, true)⟩ ::
      ⟨some 110, .load false 1 (.t 109), some (8, true)⟩ ::
      ⟨some 111, .bin .neq (.t 110) (.c (.int .i64 0)), some (8, true)⟩ ::
      ⟨some 112, .pick (.t 106) (.t 111) (.c (.bool false)), none⟩ ::
      []))
    (.cond (.t 112) (c49_8) (.skip))))
  (c49_9)
def c49_11 : HCode :=
  .seq (.seq (.region none (⟨some 93, .mv 0 (.t 14), none⟩ ::
    ⟨some 94, .mv 0 (.t 0), none⟩ ::
    ⟨some 95, .bin .lss (.t 93) (.t 94), none⟩ ::
    []))
  (.cond (.t 95) (.skip) (.exit 2)))
  (c49_10)
def c49_12 : HCode :=
  .seq (.region none (⟨some 113, .mv 1 (.t 12), none⟩ ::
    ⟨some 114, .mv 0 (.t 2), none⟩ ::
    ⟨some 115, .iaddr 1 (.t 113) (.t 114), none⟩ ::
    ⟨some 116, .load false 1 (.t 115), none⟩ ::
    ⟨some 10, .mv 0 (.t 116), none⟩ ::
    ⟨some 11, .mv 0 (.c (.int .i64 0)), none⟩ ::
    []))
  (.ret)
def c49_13 : HCode :=
  .seq (.seq (.region none (⟨some 14, .mv 0 (.c (.int .i64 0)), none⟩ ::
    []))
  (.block 2 (.loop (c49_11))))
  (c49_12)
def c49_14 : HCode :=
  .seq (.seq (.region none (⟨some 13, .mv 0 (.c (.int .i64 0)), none⟩ ::
    []))
  (.block 0 (.loop (c49_7))))
  (c49_13)
def c49_15 : HCode :=
  .seq (.region none (⟨some 28, .mv 0 (.t 0), none⟩ ::
    ⟨some 29, .mksl 1 8 [.int .i64 0] (.t 28), none⟩ ::
    ⟨some 12, .mv 1 (.t 29), none⟩ ::
    []))
  (c49_14)
def c49_16 : HCode :=
  .seq (.seq (.region none (⟨some 15, .mv 0 (.t 0), none⟩ ::
    ⟨some 16, .mv 3 (.t 1), none⟩ ::
    ⟨some 17, .mv 0 (.t 2), none⟩ ::
    ⟨some 18, .mv 0 (.t 3), none⟩ ::
    ⟨some 19, .call 60 [(.t 15), (.t 16), (.t 17), (.t 18)], none⟩ ::
    ⟨some 20, .un .not (.t 19), none⟩ ::
    ⟨some 21, .mv 0 (.t 20), none⟩ ::
    ⟨some 22, .mv 1 (.t 4), some (6, false)⟩ ::
    ⟨some 23, .len (.t 22), some (6, false)⟩ ::
    ⟨some 24, .mv 3 (.t 1), some (6, false)⟩ ::
    ⟨some 25, .len (.t 24), some (6, false)⟩ ::
    ⟨some 26, .bin .neq (.t 23) (.t 25), some (6, false)⟩ ::
    ⟨some 27, .pick (.t 21) (.c (.bool true)) (.t 26), none⟩ ::
    []))
  (.cond (.t 27) (c49_1) (.skip)))
  (c49_15)
def c49 : HCode :=
  .seq (.region none (⟨some 10, .mv 0 (.c (.int .i64 0)), none⟩ ::
    ⟨some 11, .mv 0 (.c (.int .i64 0)), none⟩ ::
    []))
  (c49_16)
theorem fc49 : funCode Try.prog 49 = some (c49, [10, 11], 117) := by kernel_rfl

def c50_1 : HCode :=
  .seq (.region none (⟨some 10, .mv 0 (.c (.int .i64 0)), none⟩ ::
    ⟨some 11, .mv 0 (.c (.int .i64 1)), none⟩ ::
    []))
  (.ret)
def c50_2 : HCode :=
  .seq (.region none (⟨some 10, .mv 0 (.c (.int .i64 0)), none⟩ ::
    ⟨some 11, .mv 0 (.c (.int .i64 5)), none⟩ ::
    []))
  (.ret)
def c50_3 : HCode :=
  .region (some [0, 0, 2, 7, 15, 0, 0, 96, 224, 511, 1023, 2047]) (⟨some 64, .mv 1 (.t 12), none⟩ ::
    ⟨some 65, .faddr 1 (.t 14), none⟩ ::
    ⟨some 66, .load false 1 (.t 65), none⟩ ::
    ⟨some 67, .iaddr 1 (.t 64) (.t 66), none⟩ ::
    ⟨some 68, .load false 1 (.t 67), none⟩ ::
    ⟨some 69, .mv 1 (.t 4), none⟩ ::
    ⟨some 70, .mv 0 (.t 13), none⟩ ::
    ⟨some 71, .iaddr 1 (.t 69) (.t 70), none⟩ ::
    ⟨some 72, .load false 1 (.t 71), none⟩ ::
    ⟨some 73, .bin .sub (.t 68) (.t 72), none⟩ ::
    ⟨some 74, .iaddr 1 (.t 64) (.t 66), none⟩ ::
    ⟨none, .store true 1 (.t 74) (.t 73), none⟩ ::
    [])
def c50_4 : HCode :=
  .seq (.region (some [0, 0, 2, 7, 15, 0, 0, 96, 224, 511, 1023, 2047]) (⟨some 53, .mv 1 (.t 12), none⟩ ::
    ⟨some 54, .faddr 0 (.t 14), none⟩ ::
    ⟨some 55, .load false 1 (.t 54), none⟩ ::
    ⟨some 56, .iaddr 1 (.t 53) (.t 55), none⟩ ::
    ⟨some 57, .load false 1 (.t 56), none⟩ ::
    ⟨some 58, .mv 1 (.t 4), none⟩ ::
    ⟨some 59, .mv 0 (.t 13), none⟩ ::
    ⟨some 60, .iaddr 1 (.t 58) (.t 59), none⟩ ::
    ⟨some 61, .load false 1 (.t 60), none⟩ ::
    ⟨some 62, .bin .add (.t 57) (.t 61), none⟩ ::
    ⟨some 63, .iaddr 1 (.t 53) (.t 55), none⟩ ::
    ⟨none, .store true 1 (.t 63) (.t 62), none⟩ ::
    []))
  (c50_3)
def c50_5 : HCode :=
  .seq (.seq (.region (some [0, 0, 3, 7, 15, 31, 63, 63, 255, 511, 63, 1087, 4095, 8191]) (⟨some 39, .mv 1 (.t 4), none⟩ ::
    ⟨some 40, .mv 0 (.t 13), none⟩ ::
    ⟨some 41, .iaddr 1 (.t 39) (.t 40), none⟩ ::
    ⟨some 42, .load false 1 (.t 41), none⟩ ::
    ⟨some 43, .bin .lss (.t 42) (.c (.int .i64 0)), none⟩ ::
    ⟨some 44, .mv 0 (.t 43), none⟩ ::
    ⟨some 45, .mv 1 (.t 4), some (5, false)⟩ ::
    ⟨some 46, .mv 0 (.t 13), some (5, false)⟩ ::
    ⟨some 47, .iaddr 1 (.t 45) (.t 46), some (5, false)⟩ ::
    ⟨some 48, .load false 1 (.t 47), some (5, false)⟩ ::
    ⟨some 49, .faddr 2 (.t 14), some (5, false)⟩ ::
    ⟨some 50, .load false 1 (.t 49), some (5, false)⟩ ::
    ⟨some 51, .bin .gtr (.t 48) (.t 50), some (5, false)⟩ ::
    ⟨some 52, .pick (.t 44) (.c (.bool true)) (.t 51), none⟩ ::
    []))
  (.cond (.t 52) (c50_2) (.skip)))
  (c50_4)
def c50_6 : HCode :=
  .region none (⟨some 75, .bin .add (.t 34) (.c (.int .i64 1)), none⟩ ::
    ⟨some 34, .mv 0 (.t 75), none⟩ ::
    [])
def c50_7 : HCode :=
  .seq (.block 1 (.seq (.region none (⟨some 36, .mv 0 (.t 34), none⟩ ::
      ⟨some 37, .iaddr 3 (.t 32) (.t 34), none⟩ ::
      ⟨some 38, .load true 3 (.t 37), none⟩ ::
      ⟨some 14, .newz [.int .i64 0, .int .i64 0, .int .i64 0], none⟩ ::
      ⟨some 13, .mv 0 (.t 36), none⟩ ::
      ⟨none, .store true 3 (.t 14) (.t 38), none⟩ ::
      []))
    (c50_5)))
  (c50_6)
def c50_8 : HCode :=
  .seq (.region none (⟨some 35, .bin .lss (.t 34) (.t 33), none⟩ ::
    []))
  (.seq (.cond (.t 35) (.skip) (.exit 0))
  (c50_7))
def c50_9 : HCode :=
  .seq (.region none (⟨some 10, .mv 0 (.c (.int .i64 0)), none⟩ ::
    ⟨some 11, .mv 0 (.c (.int .i64 24)), none⟩ ::
    []))
  (.ret)
def c50_10 : HCode :=
  .seq (.region none (⟨some 83, .mv 0 (.t 15), none⟩ ::
    ⟨some 84, .mv 0 (.t 2), none⟩ ::
    ⟨some 85, .bin .neq (.t 83) (.t 84), none⟩ ::
    ⟨some 86, .mv 0 (.t 85), none⟩ ::
    ⟨some 87, .mv 0 (.t 15), some (3, true)⟩ ::
    ⟨some 88, .mv 0 (.t 3), some (3, true)⟩ ::
    ⟨some 89, .bin .neq (.t 87) (.t 88), some (3, true)⟩ ::
    ⟨some 90, .pick (.t 86) (.t 89) (.c (.bool false)), none⟩ ::
    ⟨some 91, .mv 0 (.t 90), none⟩ ::
    ⟨some 92, .mv 0 (.t 16), some (8, true)⟩ ::
    ⟨some 93, .bin .neq (.t 92) (.c (.int .i64 0)), some (8, true)⟩ ::
    ⟨some 94, .pick (.t 91) (.t 93) (.c (.bool false)), none⟩ ::
    []))
  (.cond (.t 94) (c50_9) (.skip))
def c50_11 : HCode :=
  .region none (⟨some 95, .bin .add (.t 78) (.c (.int .i64 1)), none⟩ ::
    ⟨some 78, .mv 0 (.t 95), none⟩ ::
    [])
def c50_12 : HCode :=
  .seq (.block 3 (.seq (.region none (⟨some 80, .mv 0 (.t 78), none⟩ ::
      ⟨some 81, .iaddr 1 (.t 76) (.t 78), none⟩ ::
      ⟨some 82, .load false 1 (.t 81), none⟩ ::
      ⟨some 15, .mv 0 (.t 80), none⟩ ::
      ⟨some 16, .mv 0 (.t 82), none⟩ ::
      []))
    (c50_10)))
  (c50_11)
def c50_13 : HCode :=
  .seq (.region none (⟨some 79, .bin .lss (.t 78) (.t 77), none⟩ ::
    []))
  (.seq (.cond (.t 79) (.skip) (.exit 2))
  (c50_12))
def c50_14 : HCode :=
  .seq (.region none (⟨some 96, .mv 1 (.t 12), none⟩ ::
    ⟨some 97, .mv 0 (.t 2), none⟩ ::
    ⟨some 98, .iaddr 1 (.t 96) (.t 97), none⟩ ::
    ⟨some 99, .load false 1 (.t 98), none⟩ ::
    ⟨some 10, .mv 0 (.t 99), none⟩ ::
    ⟨some 11, .mv 0 (.c (.int .i64 0)), none⟩ ::
    []))
  (.ret)
def c50_15 : HCode :=
  .seq (.seq (.region none (⟨some 76, .mv 1 (.t 12), none⟩ ::
    ⟨some 77, .len (.t 76), none⟩ ::
    ⟨some 78, .mv 0 (.c (.int .i64 0)), none⟩ ::
    []))
  (.block 2 (.loop (c50_13))))
  (c50_14)
def c50_16 : HCode :=
  .seq (.seq (.region none (⟨some 32, .mv 3 (.t 1), none⟩ ::
    ⟨some 33, .len (.t 32), none⟩ ::
    ⟨some 34, .mv 0 (.c (.int .i64 0)), none⟩ ::
    []))
  (.block 0 (.loop (c50_8))))
  (c50_15)
def c50_17 : HCode :=
  .seq (.region none (⟨some 30, .mv 0 (.t 0), none⟩ ::
    ⟨some 31, .mksl 1 8 [.int .i64 0] (.t 30), none⟩ ::
    ⟨some 12, .mv 1 (.t 31), none⟩ ::
    []))
  (c50_16)
def c50_18 : HCode :=
  .seq (.seq (.region none (⟨some 17, .mv 0 (.t 0), none⟩ ::
    ⟨some 18, .mv 3 (.t 1), none⟩ ::
    ⟨some 19, .mv 0 (.t 2), none⟩ ::
    ⟨some 20, .mv 0 (.t 3), none⟩ ::
    ⟨some 21, .call 52 [(.t 17), (.t 18), (.t 19), (.t 20)], none⟩ ::
    ⟨some 22, .un .not (.t 21), none⟩ ::
    ⟨some 23, .mv 0 (.t 22), none⟩ ::
    ⟨some 24, .mv 1 (.t 4), some (6, false)⟩ ::
    ⟨some 25, .len (.t 24), some (6, false)⟩ ::
    ⟨some 26, .mv 3 (.t 1), some (6, false)⟩ ::
    ⟨some 27, .len (.t 26), some (6, false)⟩ ::
    ⟨some 28, .bin .neq (.t 25) (.t 27), some (6, false)⟩ ::
    ⟨some 29, .pick (.t 23) (.c (.bool true)) (.t 28), none⟩ ::
    []))
  (.cond (.t 29) (c50_1) (.skip)))
  (c50_17)
def c50 : HCode :=
  .seq (.region none (⟨some 10, .mv 0 (.c (.int .i64 0)), none⟩ ::
    ⟨some 11, .mv 0 (.c (.int .i64 0)), none⟩ ::
    []))
  (c50_18)
theorem fc50 : funCode Try.prog 50 = some (c50, [10, 11], 100) := by kernel_rfl

def c51_1 : HCode :=
  .region none (⟨some 6, .mv 0 (.c (.bool true)), none⟩ ::
    [])
def c51_2 : HCode :=
  .seq (.region none (⟨some 24, .mv 1 (.t 5), none⟩ ::
    ⟨some 25, .mv 0 (.t 1), none⟩ ::
    ⟨some 26, .bsl 1 1 [(.t 25)], none⟩ ::
    ⟨some 27, .app true 1 8 (.t 24) (.t 26), none⟩ ::
    ⟨some 5, .mv 1 (.t 27), none⟩ ::
    []))
  (c51_1)
def c51_3 : HCode :=
  .region none (⟨some 34, .mv 1 (.t 5), none⟩ ::
    ⟨some 35, .mv 1 (.t 0), none⟩ ::
    ⟨some 36, .mv 0 (.t 7), none⟩ ::
    ⟨some 37, .iaddr 1 (.t 35) (.t 36), none⟩ ::
    ⟨some 38, .load false 1 (.t 37), none⟩ ::
    ⟨some 39, .bsl 1 1 [(.t 38)], none⟩ ::
    ⟨some 40, .app true 1 8 (.t 34) (.t 39), none⟩ ::
    ⟨some 5, .mv 1 (.t 40), none⟩ ::
    [])
def c51_4 : HCode :=
  .seq (.region none (⟨some 28, .mv 1 (.t 0), none⟩ ::
    ⟨some 29, .mv 0 (.t 7), none⟩ ::
    ⟨some 30, .iaddr 1 (.t 28) (.t 29), none⟩ ::
    ⟨some 31, .load false 1 (.t 30), none⟩ ::
    ⟨some 32, .mv 0 (.t 1), none⟩ ::
    ⟨some 33, .bin .neq (.t 31) (.t 32), none⟩ ::
    []))
  (.cond (.t 33) (c51_3) (.skip))
def c51_5 : HCode :=
  .region none (⟨some 12, .mv 0 (.t 7), none⟩ ::
    ⟨some 13, .bin .add (.t 12) (.c (.int .i64 1)), none⟩ ::
    ⟨some 7, .mv 0 (.t 13), none⟩ ::
    [])
def c51_6 : HCode :=
  .seq (.block 1 (.seq (.seq (.region none (⟨some 14, .mv 0 (.t 6), none⟩ ::
      ⟨some 15, .un .not (.t 14), none⟩ ::
      ⟨some 16, .mv 0 (.t 15), none⟩ ::
      ⟨some 17, .mv 1 (.t 0), some (2, true)⟩ ::
      ⟨some 18, .mv 0 (.t 7), some (2, true)⟩ ::
      ⟨some 19, .iaddr 1 (.t 17) (.t 18), some (2, true)⟩ ::
      ⟨some 20, .load false 1 (.t 19), some (2, true)⟩ ::
      ⟨some 21, .mv 0 (.t 1), some (2, true)⟩ ::
      ⟨some 22, .bin .geq (.t 20) (.t 21), some (2, true)⟩ ::
      ⟨some 23, .pick (.t 16) (.t 22) (.c (.bool false)), none⟩ ::
      []))
    (.cond (.t 23) (c51_2) (.skip)))
    (c51_4)))
  (c51_5)
def c51_7 : HCode :=
  .seq (.seq (.region none (⟨some 8, .mv 0 (.t 7), none⟩ ::
    ⟨some 9, .mv 1 (.t 0), none⟩ ::
    ⟨some 10, .len (.t 9), none⟩ ::
    ⟨some 11, .bin .lss (.t 8) (.t 10), none⟩ ::
    []))
  (.cond (.t 11) (.skip) (.exit 0)))
  (c51_6)
def c51_8 : HCode :=
  .region none (⟨some 43, .mv 1 (.t 5), none⟩ ::
    ⟨some 44, .mv 0 (.t 1), none⟩ ::
    ⟨some 45, .bsl 1 1 [(.t 44)], none⟩ ::
    ⟨some 46, .app true 1 8 (.t 43) (.t 45), none⟩ ::
    ⟨some 5, .mv 1 (.t 46), none⟩ ::
    [])
def c51_9 : HCode :=
  .seq (.region none (⟨some 47, .mv 1 (.t 5), none⟩ ::
    ⟨some 4, .mv 1 (.t 47), none⟩ ::
    []))
  (.ret)
def c51_10 : HCode :=
  .seq (.seq (.region none (⟨some 41, .mv 0 (.t 6), none⟩ ::
    ⟨some 42, .un .not (.t 41), none⟩ ::
    []))
  (.cond (.t 42) (c51_8) (.skip)))
  (c51_9)
def c51_11 : HCode :=
  .seq (.seq (.region none (⟨some 7, .mv 0 (.c (.int .i64 0)), none⟩ ::
    []))
  (.block 0 (.loop (c51_7))))
  (c51_10)
def c51_12 : HCode :=
  .seq (.region none (⟨some 6, .mv 0 (.c (.bool false)), none⟩ ::
    []))
  (c51_11)
def c51_13 : HCode :=
  .seq (.region none (⟨some 5, .mv 1 (.c (.nils)), none⟩ ::
    []))
  (c51_12)
def c51 : HCode :=
  .seq (.region none (⟨some 4, .mv 1 (.c (.nils)), none⟩ ::
    []))
  (c51_13)
theorem fc51 : funCode Try.prog 51 = some (c51, [4], 48) := by kernel_rfl

def c52_1 : HCode :=
  .seq (.region none (⟨some 8, .mv 0 (.c (.bool false)), none⟩ ::
    []))
  (.ret)
def c52_2 : HCode :=
  .seq (.region none (⟨some 8, .mv 0 (.c (.bool false)), none⟩ ::
    []))
  (.ret)
def c52_3 : HCode :=
  .seq (.region none (⟨some 51, .faddr 0 (.t 10), none⟩ ::
    ⟨some 52, .load false 1 (.t 51), none⟩ ::
    ⟨some 53, .bin .lss (.t 52) (.c (.int .i64 0)), none⟩ ::
    ⟨some 54, .mv 0 (.t 53), none⟩ ::
    ⟨some 55, .faddr 0 (.t 10), some (3, false)⟩ ::
    ⟨some 56, .load false 1 (.t 55), some (3, false)⟩ ::
    ⟨some 57, .mv 0 (.t 0), some (3, false)⟩ ::
    ⟨some 58, .bin .geq (.t 56) (.t 57), some (3, false)⟩ ::
    ⟨some 59, .pick (.t 54) (.c (.bool true)) (.t 58), none⟩ ::
    ⟨some 60, .mv 0 (.t 59), none⟩ ::
    ⟨some 61, .faddr 1 (.t 10), some (9, false)⟩ ::
    ⟨some 62, .load false 1 (.t 61), some (9, false)⟩ ::
    ⟨some 63, .bin .lss (.t 62) (.c (.int .i64 0)), some (9, false)⟩ ::
    ⟨some 64, .pick (.t 60) (.c (.bool true)) (.t 63), none⟩ ::
    ⟨some 65, .mv 0 (.t 64), none⟩ ::
    ⟨some 66, .faddr 1 (.t 10), some (14, false)⟩ ::
    ⟨some 67, .load false 1 (.t 66), some (14, false)⟩ ::
    ⟨some 68, .mv 0 (.t 0), some (14, false)⟩ ::
    ⟨some 69, .bin .geq (.t 67) (.t 68), some (14, false)⟩ ::
    ⟨some 70, .pick (.t 65) (.c (.bool true)) (.t 69), none⟩ ::
    ⟨some 71, .mv 0 (.t 70), none⟩ ::
    ⟨some 72, .faddr 0 (.t 10), some (20, false)⟩ ::
    ⟨some 73, .load false 1 (.t 72), some (20, false)⟩ ::
    ⟨some 74, .faddr 1 (.t 10), some (20, false)⟩ ::
    ⟨some 75, .load false 1 (.t 74), some (20, false)⟩ ::
    ⟨some 76, .bin .eql (.t 73) (.t 75), some (20, false)⟩ ::
    ⟨some 77, .pick (.t 71) (.c (.bool true)) (.t 76), none⟩ ::
    ⟨some 78, .mv 0 (.t 77), none⟩ ::
    ⟨some 79, .faddr 2 (.t 10), some (27, false)⟩ ::
    ⟨some 80, .load false 1 (.t 79), some (27, false)⟩ ::
    ⟨some 81, .bin .lss (.t 80) (.c (.int .i64 0)), some (27, false)⟩ ::
    ⟨some 82, .pick (.t 78) (.c (.bool true)) (.t 81), none⟩ ::
    ⟨some 83, .mv 0 (.t 82), none⟩ ::
    ⟨some 84, .faddr 2 (.t 10), some (32, false)⟩ ::
    ⟨some 85, .load false 1 (.t 84), some (32, false)⟩ ::
    ⟨some 86, .bin .gtr (.t 85) (.c (.int .i64 1099511627776)), some (32, false)⟩ ::
    ⟨some 87, .pick (.t 83) (.c (.bool true)) (.t 86), none⟩ ::
    []))
  (.cond (.t 87) (c52_2) (.skip))
def c52_4 : HCode :=
  .region none (⟨some 88, .bin .add (.t 47) (.c (.int .i64 1)), none⟩ ::
    ⟨some 47, .mv 0 (.t 88), none⟩ ::
    [])
def c52_5 : HCode :=
  .seq (.block 1 (.seq (.region none (⟨some 49, .iaddr 3 (.t 45) (.t 47), none⟩ ::
      ⟨some 50, .load true 3 (.t 49), none⟩ ::
      ⟨some 10, .newz [.int .i64 0, .int .i64 0, .int .i64 0], none⟩ ::
      ⟨none, .store true 3 (.t 10) (.t 50), none⟩ ::
      []))
    (c52_3)))
  (c52_4)
def c52_6 : HCode :=
  .seq (.region none (⟨some 48, .bin .lss (.t 47) (.t 46), none⟩ ::
    []))
  (.seq (.cond (.t 48) (.skip) (.exit 0))
  (c52_5))
def c52_7 : HCode :=
  .seq (.region none (⟨some 8, .mv 0 (.c (.bool true)), none⟩ ::
    []))
  (.ret)
def c52_8 : HCode :=
  .seq (.seq (.region none (⟨some 45, .mv 3 (.t 1), none⟩ ::
    ⟨some 46, .len (.t 45), none⟩ ::
    ⟨some 47, .mv 0 (.c (.int .i64 0)), none⟩ ::
    []))
  (.block 0 (.loop (c52_6))))
  (c52_7)
def c52_9 : HCode :=
  .seq (.seq (.region none (⟨some 11, .mv 0 (.t 0), none⟩ ::
    ⟨some 12, .bin .lss (.t 11) (.c (.int .i64 2)), none⟩ ::
    ⟨some 13, .mv 0 (.t 12), none⟩ ::
    ⟨some 14, .mv 0 (.t 0), some (2, false)⟩ ::
    ⟨some 15, .bin .gtr (.t 14) (.c (.int .i64 258)), some (2, false)⟩ ::
    ⟨some 16, .pick (.t 13) (.c (.bool true)) (.t 15), none⟩ ::
    ⟨some 17, .mv 0 (.t 16), none⟩ ::
    ⟨some 18, .mv 0 (.t 2), some (6, false)⟩ ::
    ⟨some 19, .bin .lss (.t 18) (.c (.int .i64 0)), some (6, false)⟩ ::
    ⟨some 20, .pick (.t 17) (.c (.bool true)) (.t 19), none⟩ ::
    ⟨some 21, .mv 0 (.t 20), none⟩ ::
    ⟨some 22, .mv 0 (.t 2), some (10, false)⟩ ::
    ⟨some 23, .mv 0 (.t 0), some (10, false)⟩ ::
    ⟨some 24, .bin .geq (.t 22) (.t 23), some (10, false)⟩ ::
    ⟨some 25, .pick (.t 21) (.c (.bool true)) (.t 24), none⟩ ::
    ⟨some 26, .mv 0 (.t 25), none⟩ ::
    ⟨some 27, .mv 0 (.t 3), some (15, false)⟩ ::
    ⟨some 28, .bin .lss (.t 27) (.c (.int .i64 0)), some (15, false)⟩ ::
    ⟨some 29, .pick (.t 26) (.c (.bool true)) (.t 28), none⟩ ::
    ⟨some 30, .mv 0 (.t 29), none⟩ ::
    ⟨some 31, .mv 0 (.t 3), some (19, false)⟩ ::
    ⟨some 32, .mv 0 (.t 0), some (19, false)⟩ ::
    ⟨some 33, .bin .geq (.t 31) (.t 32), some (19, false)⟩ ::
    ⟨some 34, .pick (.t 30) (.c (.bool true)) (.t 33), none⟩ ::
    ⟨some 35, .mv 0 (.t 34), none⟩ ::
    ⟨some 36, .mv 0 (.t 2), some (24, false)⟩ ::
    ⟨some 37, .mv 0 (.t 3), some (24, false)⟩ ::
    ⟨some 38, .bin .eql (.t 36) (.t 37), some (24, false)⟩ ::
    ⟨some 39, .pick (.t 35) (.c (.bool true)) (.t 38), none⟩ ::
    ⟨some 40, .mv 0 (.t 39), none⟩ ::
    ⟨some 41, .mv 3 (.t 1), some (29, false)⟩ ::
    ⟨some 42, .len (.t 41), some (29, false)⟩ ::
    ⟨some 43, .bin .gtr (.t 42) (.c (.int .i64 65536)), some (29, false)⟩ ::
    ⟨some 44, .pick (.t 40) (.c (.bool true)) (.t 43), none⟩ ::
    []))
  (.cond (.t 44) (c52_1) (.skip)))
  (c52_8)
def c52 : HCode :=
  .seq (.region none (⟨some 8, .mv 0 (.c (.bool false)), none⟩ ::
    []))
  (c52_9)
theorem fc52 : funCode Try.prog 52 = some (c52, [8], 89) := by kernel_rfl

def c56_1 : HCode :=
  .seq (.region none (⟨some 5, .mv 1 (.t 0), none⟩ ::
    ⟨some 6, .mv 0 (.t 1), none⟩ ::
    ⟨some 7, .call 64 [(.t 5), (.t 6)], none⟩ ::
    ⟨some 8, .bin .geq (.t 7) (.c (.int .i64 0)), none⟩ ::
    ⟨some 4, .mv 0 (.t 8), none⟩ ::
    []))
  (.ret)
def c56 : HCode :=
  .seq (.region none (⟨some 4, .mv 0 (.c (.bool false)), none⟩ ::
    []))
  (c56_1)
theorem fc56 : funCode Try.prog 56 = some (c56, [4], 9) := by kernel_rfl

def c57_1 : HCode :=
  .seq (.region none (⟨some 4, .mv 1 (.t 0), none⟩ ::
    ⟨some 5, .mkfn 58 [(.t 1)], none⟩ ::
    ⟨some 6, .call 41 [(.t 4), (.t 5)], none⟩ ::
    ⟨some 3, .mv 0 (.t 6), none⟩ ::
    []))
  (.ret)
def c57 : HCode :=
  .seq (.region none (⟨some 3, .mv 0 (.c (.bool false)), none⟩ ::
    []))
  (c57_1)
theorem fc57 : funCode Try.prog 57 = some (c57, [3], 7) := by kernel_rfl

def c58_1 : HCode :=
  .seq (.region none (⟨some 4, .mv 0 (.t 0), none⟩ ::
    ⟨some 5, .bin .lss (.t 4) (.c (.int .i64 0)), none⟩ ::
    ⟨some 6, .mv 0 (.t 5), none⟩ ::
    ⟨some 7, .mv 0 (.t 0), some (2, false)⟩ ::
    ⟨some 8, .load false 1 (.t 1), some (2, false)⟩ ::
    ⟨some 9, .len (.t 8), some (2, false)⟩ ::
    ⟨some 10, .bin .geq (.t 7) (.t 9), some (2, false)⟩ ::
    ⟨some 11, .pick (.t 6) (.c (.bool true)) (.t 10), none⟩ ::
    ⟨some 3, .mv 0 (.t 11), none⟩ ::
    []))
  (.ret)
def c58 : HCode :=
  .seq (.region none (⟨some 3, .mv 0 (.c (.bool false)), none⟩ ::
    []))
  (c58_1)
theorem fc58 : funCode Try.prog 58 = some (c58, [3], 12) := by kernel_rfl

def c59_1 : HCode :=
  .seq (.region none (⟨some 17, .mv 0 (.t 5), none⟩ ::
    ⟨some 4, .mv 0 (.t 17), none⟩ ::
    []))
  (.ret)
def c59_2 : HCode :=
  .seq (.region none (⟨some 11, .mv 0 (.t 1), none⟩ ::
    ⟨some 12, .mv 1 (.t 0), none⟩ ::
    ⟨some 13, .mv 0 (.t 5), none⟩ ::
    ⟨some 14, .iaddr 1 (.t 12) (.t 13), none⟩ ::
    ⟨some 15, .load false 1 (.t 14), none⟩ ::
    ⟨some 16, .callv (.t 11) [(.t 15)], none⟩ ::
    []))
  (.cond (.t 16) (c59_1) (.skip))
def c59_3 : HCode :=
  .region none (⟨some 18, .bin .add (.t 8) (.c (.int .i64 1)), none⟩ ::
    ⟨some 8, .mv 0 (.t 18), none⟩ ::
    [])
def c59_4 : HCode :=
  .seq (.block 1 (.seq (.region none (⟨some 10, .mv 0 (.t 8), none⟩ ::
      ⟨some 5, .mv 0 (.t 10), none⟩ ::
      []))
    (c59_2)))
  (c59_3)
def c59_5 : HCode :=
  .seq (.region none (⟨some 9, .bin .lss (.t 8) (.t 7), none⟩ ::
    []))
  (.seq (.cond (.t 9) (.skip) (.exit 0))
  (c59_4))
def c59_6 : HCode :=
  .seq (.region none (⟨some 4, .mv 0 (.c (.int .i64 (-1))), none⟩ ::
    []))
  (.ret)
def c59_7 : HCode :=
  .seq (.seq (.region none (⟨some 6, .mv 1 (.t 0), none⟩ ::
    ⟨some 7, .len (.t 6), none⟩ ::
    ⟨some 8, .mv 0 (.c (.int .i64 0)), none⟩ ::
    []))
  (.block 0 (.loop (c59_5))))
  (c59_6)
def c59 : HCode :=
  .seq (.region none (⟨some 4, .mv 0 (.c (.int .i64 0)), none⟩ ::
    []))
  (c59_7)
theorem fc59 : funCode Try.prog 59 = some (c59, [4], 19) := by kernel_rfl

def c60_1 : HCode :=
  .seq (.region none (⟨some 8, .mv 0 (.c (.bool false)), none⟩ ::
    []))
  (.ret)
def c60_2 : HCode :=
  .seq (.region none (⟨some 8, .mv 0 (.c (.bool false)), none⟩ ::
    []))
  (.ret)
def c60_3 : HCode :=
  .seq (.region none (⟨some 55, .faddr 0 (.t 10), none⟩ ::
    ⟨some 56, .load false 1 (.t 55), none⟩ ::
    ⟨some 57, .bin .lss (.t 56) (.c (.int .i64 0)), none⟩ ::
    ⟨some 58, .mv 0 (.t 57), none⟩ ::
    ⟨some 59, .faddr 0 (.t 10), some (3, false)⟩ ::
    ⟨some 60, .load false 1 (.t 59), some (3, false)⟩ ::
    ⟨some 61, .mv 0 (.t 0), some (3, false)⟩ ::
    ⟨some 62, .bin .geq (.t 60) (.t 61), some (3, false)⟩ ::
    ⟨some 63, .pick (.t 58) (.c (.bool true)) (.t 62), none⟩ ::
    ⟨some 64, .mv 0 (.t 63), none⟩ ::
    ⟨some 65, .faddr 1 (.t 10), some (9, false)⟩ ::
    ⟨some 66, .load false 1 (.t 65), some (9, false)⟩ ::
    ⟨some 67, .bin .lss (.t 66) (.c (.int .i64 0)), some (9, false)⟩ ::
    ⟨some 68, .pick (.t 64) (.c (.bool true)) (.t 67), none⟩ ::
    ⟨some 69, .mv 0 (.t 68), none⟩ ::
    ⟨some 70, .faddr 1 (.t 10), some (14, false)⟩ ::
    ⟨some 71, .load false 1 (.t 70), some (14, false)⟩ ::
    ⟨some 72, .mv 0 (.t 0), some (14, false)⟩ ::
    ⟨some 73, .bin .geq (.t 71) (.t 72), some (14, false)⟩ ::
    ⟨some 74, .pick (.t 69) (.c (.bool true)) (.t 73), none⟩ ::
    ⟨some 75, .mv 0 (.t 74), none⟩ ::
    ⟨some 76, .faddr 0 (.t 10), some (20, false)⟩ ::
    ⟨some 77, .load false 1 (.t 76), some (20, false)⟩ ::
    ⟨some 78, .faddr 1 (.t 10), some (20, false)⟩ ::
    ⟨some 79, .load false 1 (.t 78), some (20, false)⟩ ::
    ⟨some 80, .bin .eql (.t 77) (.t 79), some (20, false)⟩ ::
    ⟨some 81, .pick (.t 75) (.c (.bool true)) (.t 80), none⟩ ::
    ⟨some 82, .mv 0 (.t 81), none⟩ ::
    ⟨some 83, .faddr 2 (.t 10), some (27, false)⟩ ::
    ⟨some 84, .load false 1 (.t 83), some (27, false)⟩ ::
    ⟨some 85, .bin .lss (.t 84) (.c (.int .i64 0)), some (27, false)⟩ ::
    ⟨some 86, .pick (.t 82) (.c (.bool true)) (.t 85), none⟩ ::
    ⟨some 87, .mv 0 (.t 86), none⟩ ::
    ⟨some 88, .faddr 2 (.t 10), some (32, false)⟩ ::
    ⟨some 89, .load false 1 (.t 88), some (32, false)⟩ ::
    ⟨some 90, .bin .gtr (.t 89) (.c (.int .i64 1099511627776)), some (32, false)⟩ ::
    ⟨some 91, .pick (.t 87) (.c (.bool true)) (.t 90), none⟩ ::
    []))
  (.cond (.t 91) (c60_2) (.skip))
def c60_4 : HCode :=
  .region none (⟨some 49, .mv 0 (.t 9), none⟩ ::
    ⟨some 50, .bin .add (.t 49) (.c (.int .i64 1)), none⟩ ::
    ⟨some 9, .mv 0 (.t 50), none⟩ ::
    [])
def c60_5 : HCode :=
  .seq (.block 1 (.seq (.region none (⟨some 51, .mv 3 (.t 1), none⟩ ::
      ⟨some 52, .mv 0 (.t 9), none⟩ ::
      ⟨some 53, .iaddr 3 (.t 51) (.t 52), none⟩ ::
      ⟨some 54, .load true 3 (.t 53), none⟩ ::
      ⟨some 10, .newz [.int .i64 0, .int .i64 0, .int .i64 0], none⟩ ::
      ⟨none, .store true 3 (.t 10) (.t 54), none⟩ ::
      []))
    (c60_3)))
  (c60_4)
def c60_6 : HCode :=
  .seq (.seq (.region none (⟨some 45, .mv 0 (.t 9), none⟩ ::
    ⟨some 46, .mv 3 (.t 1), none⟩ ::
    ⟨some 47, .len (.t 46), none⟩ ::
    ⟨some 48, .bin .lss (.t 45) (.t 47), none⟩ ::
    []))
  (.cond (.t 48) (.skip) (.exit 0)))
  (c60_5)
def c60_7 : HCode :=
  .seq (.region none (⟨some 8, .mv 0 (.c (.bool true)), none⟩ ::
    []))
  (.ret)
def c60_8 : HCode :=
  .seq (.seq (.region none (⟨some 9, .mv 0 (.c (.int .i64 0)), none⟩ ::
    []))
  (.block 0 (.loop (c60_6))))
  (c60_7)
def c60_9 : HCode :=
  .seq (.seq (.region none (⟨some 11, .mv 0 (.t 0), none⟩ ::
    ⟨some 12, .bin .lss (.t 11) (.c (.int .i64 2)), none⟩ ::
    ⟨some 13, .mv 0 (.t 12), none⟩ ::
    ⟨some 14, .mv 0 (.t 0), some (2, false)⟩ ::
    ⟨some 15, .bin .gtr (.t 14) (.c (.int .i64 258)), some (2, false)⟩ ::
    ⟨some 16, .pick (.t 13) (.c (.bool true)) (.t 15), none⟩ ::
    ⟨some 17, .mv 0 (.t 16), none⟩ ::
    ⟨some 18, .mv 0 (.t 2), some (6, false)⟩ ::
    ⟨some 19, .bin .lss (.t 18) (.c (.int .i64 0)), some (6, false)⟩ ::
    ⟨some 20, .pick (.t 17) (.c (.bool true)) (.t 19), none⟩ ::
    ⟨some 21, .mv 0 (.t 20), none⟩ ::
    ⟨some 22, .mv 0 (.t 2), some (10, false)⟩ ::
    ⟨some 23, .mv 0 (.t 0), some (10, false)⟩ ::
    ⟨some 24, .bin .geq (.t 22) (.t 23), some (10, false)⟩ ::
    ⟨some 25, .pick (.t 21) (.c (.bool true)) (.t 24), none⟩ ::
    ⟨some 26, .mv 0 (.t 25), none⟩ ::
    ⟨some 27, .mv 0 (.t 3), some (15, false)⟩ ::
    ⟨some 28, .bin .lss (.t 27) (.c (.int .i64 0)), some (15, false)⟩ ::
    ⟨some 29, .pick (.t 26) (.c (.bool true)) (.t 28), none⟩ ::
    ⟨some 30, .mv 0 (.t 29), none⟩ ::
    ⟨some 31, .mv 0 (.t 3), some (19, false)⟩ ::
    ⟨some 32, .mv 0 (.t 0), some (19, false)⟩ ::
    ⟨some 33, .bin .geq (.t 31) (.t 32), some (19, false)⟩ ::
    ⟨some 34, .pick (.t 30) (.c (.bool true)) (.t 33), none⟩ ::
    ⟨some 35, .mv 0 (.t 34), none⟩ ::
    ⟨some 36, .mv 0 (.t 2), some (24, false)⟩ ::
    ⟨some 37, .mv 0 (.t 3), some (24, false)⟩ ::
    ⟨some 38, .bin .eql (.t 36) (.t 37), some (24, false)⟩ ::
    ⟨some 39, .pick (.t 35) (.c (.bool true)) (.t 38), none⟩ ::
    ⟨some 40, .mv 0 (.t 39), none⟩ ::
    ⟨some 41, .mv 3 (.t 1), some (29, false)⟩ ::
    ⟨some 42, .len (.t 41), some (29, false)⟩ ::
    ⟨some 43, .bin .gtr (.t 42) (.c (.int .i64 65536)), some (29, false)⟩ ::
    ⟨some 44, .pick (.t 40) (.c (.bool true)) (.t 43), none⟩ ::
    []))
  (.cond (.t 44) (c60_1) (.skip)))
  (c60_8)
def c60 : HCode :=
  .seq (.region none (⟨some 8, .mv 0 (.c (.bool false)), none⟩ ::
    []))
  (c60_9)
theorem fc60 : funCode Try.prog 60 = some (c60, [8], 92) := by kernel_rfl

def c64_1 : HCode :=
  .seq (.region none (⟨some 17, .mv 0 (.t 5), none⟩ ::
    ⟨some 4, .mv 0 (.t 17), none⟩ ::
    []))
  (.ret)
def c64_2 : HCode :=
  .seq (.region none (⟨some 11, .mv 0 (.t 1), none⟩ ::
    ⟨some 12, .mv 1 (.t 0), none⟩ ::
    ⟨some 13, .mv 0 (.t 5), none⟩ ::
    ⟨some 14, .iaddr 1 (.t 12) (.t 13), none⟩ ::
    ⟨some 15, .load false 1 (.t 14), none⟩ ::
    ⟨some 16, .callv (.t 11) [(.t 15)], none⟩ ::
    []))
  (.cond (.t 16) (c64_1) (.skip))
def c64_3 : HCode :=
  .region none (⟨some 18, .bin .add (.t 8) (.c (.int .i64 1)), none⟩ ::
    ⟨some 8, .mv 0 (.t 18), none⟩ ::
    [])
def c64_4 : HCode :=
  .seq (.block 1 (.seq (.region none (⟨some 10, .mv 0 (.t 8), none⟩ ::
      ⟨some 5, .mv 0 (.t 10), none⟩ ::
      []))
    (c64_2)))
  (c64_3)
def c64_5 : HCode :=
  .seq (.region none (⟨some 9, .bin .lss (.t 8) (.t 7), none⟩ ::
    []))
  (.seq (.cond (.t 9) (.skip) (.exit 0))
  (c64_4))
def c64_6 : HCode :=
  .seq (.region none (⟨some 4, .mv 0 (.c (.int .i64 (-1))), none⟩ ::
    []))
  (.ret)
def c64_7 : HCode :=
  .seq (.seq (.region none (⟨some 6, .mv 1 (.t 0), none⟩ ::
    ⟨some 7, .len (.t 6), none⟩ ::
    ⟨some 8, .mv 0 (.c (.int .i64 0)), none⟩ ::
    []))
  (.block 0 (.loop (c64_5))))
  (c64_6)
def c64 : HCode :=
  .seq (.region none (⟨some 4, .mv 0 (.c (.int .i64 0)), none⟩ ::
    []))
  (c64_7)
theorem fc64 : funCode Try.prog 64 = some (c64, [4], 19) := by kernel_rfl

end Go.Proofs.Ytkhbiknjkffpjaa
