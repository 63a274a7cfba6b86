/-
  OWN WORK. Small facts on numbers and endings, and the slice types of this translation.
-/
import Derived.Test.YtbddkmhpfbmcmaaProg
import Derived.Test.YtbddkmhpfbmcmaaSlOps
set_option linter.unusedSimpArgs false
set_option linter.unusedVariables false
namespace Go.Proofs.Ytbddkmhpfbmcmaa
open Go.RowKit Go.SL

theorem ret_int {k : IntKind} {a b : Int} (h : a = b) : Ending.returned (.int k a) = .returned (.int k b) := by rw [h]
theorem tmod_bd (n m : Int) (hm : 0 < m) : -m < n.tmod m ∧ n.tmod m < m := ⟨Int.lt_tmod_of_pos n hm, Int.tmod_lt_of_pos n hm⟩
theorem tmod_mod (n m : Int) (hm : 0 < m) : (n.tmod m + m).tmod m = n % m := by
  have h1 := (tmod_bd n m hm).1
  rw [Int.tmod_eq_emod_of_nonneg (by omega), Int.add_emod_right, Int.tmod_eq_emod]
  split
  · simp
  · have e : (m.natAbs : Int) = m := Int.natAbs_of_nonneg (by omega)
    rw [e]
    have := Int.add_emod_right (n % m - m) m
    rw [← this]; simp
theorem tdiv_bd (n m : Int) (hm : 0 < m) (b : Int) (h0 : 0 ≤ b) (h1 : -b ≤ n) (h2 : n ≤ b) : -b ≤ n.tdiv m ∧ n.tdiv m ≤ b := by
  rcases Int.le_total 0 n with h | h
  · rw [Int.tdiv_eq_ediv_of_nonneg h]
    have := Int.ediv_nonneg h (by omega : 0 ≤ m)
    have := Int.ediv_le_self m h
    omega
  · have : n.tdiv m = -((-n).tdiv m) := by rw [Int.neg_tdiv]; omega
    rw [this, Int.tdiv_eq_ediv_of_nonneg (by omega)]
    have := Int.ediv_nonneg (by omega : 0 ≤ -n) (by omega : 0 ≤ m)
    have := Int.ediv_le_self m (by omega : 0 ≤ -n)
    omega

theorem T.ints : SliceT Try.prog 22 3 [.int .i64 0] 8 := SliceT.mk' (.int .i64 0) 1 Try.underlying22 (by kernel_rfl) rfl rfl
theorem T.bools : SliceT Try.prog 26 4 [.bool false] 1 := SliceT.mk' (.bool false) 1 Try.underlying26 (by kernel_rfl) rfl rfl

/-- Numbers as cells. -/
abbrev ints (l : List Int) : List Value := l.map (Value.int .i64)
abbrev bools (l : List Bool) : List Value := l.map Value.bool
/-- Every number is one of Go's. -/
def wf64 (l : List Int) : Prop := ∀ x ∈ l, -9223372036854775808 ≤ x ∧ x ≤ 9223372036854775807

end Go.Proofs.Ytbddkmhpfbmcmaa
