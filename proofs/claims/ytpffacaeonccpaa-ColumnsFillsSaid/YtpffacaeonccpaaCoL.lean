/-
  OWN WORK. The section's examples, computed.
-/
import Derived.Test.YtpffacaeonccpaaCoI
set_option linter.unusedSimpArgs false
set_option linter.unusedVariables false
namespace Go.Proofs.Ytpffacaeonccpaa
open Go.RowKit Go.HL

def tblL : Tbl := [(12, c12, [0], 106), (19, c19, [2], 36), (20, c20, [2], 50), (21, c21, [8], 25), (7, c7, [6], 29), (17, c17, [2], 9), (16, c16, [4], 9), (25, c25, [4], 19), (26, c26, [6], 32), (27, c27, [4], 26)]
theorem tblL_ok : tblOK Try.prog tblL := (tblOK.cons fc12 (tblOK.cons fc19 (tblOK.cons fc20 (tblOK.cons fc21 (tblOK.cons fc7 (tblOK.cons fc17 (tblOK.cons fc16 (tblOK.cons fc25 (tblOK.cons fc26 (tblOK.cons fc27 (tblOK.nil)))))))))))
def ex1 : HV := .sl 3 [.int .i64 2, .int .i64 5, .int .i64 3]
def ex2 : HV := .sl 5 [.int .i64 1, .int .i64 1, .int .i64 1, .int .i64 1, .int .i64 1]
def ex3 : HV := .sl 1 [.int .i64 5]
theorem lfill1 : HT Try.prog 5 [ex1, .int .i64 4, .int .i64 1] (fun r => r = fillV rowsTO [2, 5, 3] 1 (colsE (brk [2, 5, 3]) 4 1)) := ht_fill [2, 5, 3] (by decide) (by decide) 4 1 (by decide) (by decide) (by decide) (by decide)
theorem lfill2 : HT Try.prog 5 [ex2, .int .i64 4, .int .i64 2] (fun r => r = fillV rowsTO [1, 1, 1, 1, 1] 2 (colsE (brk [1, 1, 1, 1, 1]) 4 2)) := ht_fill [1, 1, 1, 1, 1] (by decide) (by decide) 4 2 (by decide) (by decide) (by decide) (by decide)
theorem lfill3 : HT Try.prog 5 [ex3, .int .i64 2, .int .i64 1] (fun r => r = .tup [.osl 1 0 [], .int .i64 1]) := ht_fill_bad [5] 2 1 (by decide) (by decide)
theorem ht_lives34 : HT Try.prog 12 [] (fun r => r = .bool true) :=
  evM_sound rfl (m := [(5, [ex1, .int .i64 4, .int .i64 1], fillV rowsTO [2, 5, 3] 1 (colsE (brk [2, 5, 3]) 4 1)), (5, [ex2, .int .i64 4, .int .i64 2], fillV rowsTO [1, 1, 1, 1, 1] 2 (colsE (brk [1, 1, 1, 1, 1]) 4 2)), (5, [ex3, .int .i64 2, .int .i64 1], .tup [.osl 1 0 [], .int .i64 1])])
    (memoOK.cons lfill1 (memoOK.cons lfill2 (memoOK.cons lfill3 memoOK.nil))) tblL_ok 100 8 12 [] (.bool true) (by kernel_rfl)
end Go.Proofs.Ytpffacaeonccpaa
