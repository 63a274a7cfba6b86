/-
  OWN WORK. bits.Mul of 1 and a small number, computed.
-/
import Derived.Test.YtjlidhijnohkbaaHb
set_option linter.unusedSimpArgs false
set_option linter.unusedVariables false
namespace Go.Proofs.Ytjlidhijnohkbaa
open Go.RowKit Go.HL
set_option maxRecDepth 100000

def tblR : Tbl := [(48, c48, [4, 5], 30), (50, c50, [4, 5], 51)]
theorem tblR_ok : tblOK Try.prog tblR := (tblOK.cons fc48 (tblOK.cons fc50 (tblOK.nil)))
def okMul (n : Nat) : Bool := match evM [] tblR 40 3 48 [.int .u64 1, .int .u64 n] with
  | some (.tup [.int .u64 a, .int .u64 b]) => decide (a = 0) && decide (b = n)
  | _ => false
theorem mul0 : ((List.range' 1 64).all okMul) = true := by kernel_rfl
theorem mul1 : ((List.range' 65 64).all okMul) = true := by kernel_rfl
theorem mul2 : ((List.range' 129 64).all okMul) = true := by kernel_rfl
theorem mul3 : ((List.range' 193 64).all okMul) = true := by kernel_rfl
theorem mul_ok (n : Nat) (h0 : 0 < n) (h1 : n ≤ 256) : okMul n = true := by
  rcases Nat.lt_or_ge n 65 with h | h
  · exact List.all_eq_true.1 mul0 n (List.mem_range'_1.2 ⟨by omega, by omega⟩)
  rcases Nat.lt_or_ge n 129 with h | h
  · exact List.all_eq_true.1 mul1 n (List.mem_range'_1.2 ⟨by omega, by omega⟩)
  rcases Nat.lt_or_ge n 193 with h | h
  · exact List.all_eq_true.1 mul2 n (List.mem_range'_1.2 ⟨by omega, by omega⟩)
  · exact List.all_eq_true.1 mul3 n (List.mem_range'_1.2 ⟨by omega, by omega⟩)
theorem ht_mul (n : Nat) (h0 : 0 < n) (h1 : n ≤ 256) : HT Try.prog 48 [.int .u64 1, .int .u64 n] (fun r => r = .tup [.int .u64 0, .int .u64 n]) := by
  have h := mul_ok n h0 h1
  unfold okMul at h
  split at h
  · rename_i a b he
    simp only [Bool.and_eq_true, decide_eq_true_eq] at h
    obtain ⟨rfl, rfl⟩ := h
    exact evM_sound rfl (m := []) memoOK.nil tblR_ok 40 3 _ _ _ he
  · cases h

end Go.Proofs.Ytjlidhijnohkbaa
