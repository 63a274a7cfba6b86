/-
  OWN WORK. Contract of the law's lives.
-/
import Derived.Test.YtbddkmhpfbmcmaaFlLivesP
set_option linter.unusedSimpArgs false
set_option linter.unusedVariables false
namespace Go.Proofs.Ytbddkmhpfbmcmaa
open Go.RowKit Go.SL

theorem ex_max (a : Option Addr) (w : World) (hr : rd w a (ecells exL)) : Calls Try.prog 13 #[.int .i64 4, .slice a 5 5, .int .i64 0, .int .i64 3] w (MaxPost 4 0 3 exL w) := max_any 4 a 5 5 exL 0 3 w hr rfl vex
theorem ex_cutc (a : Option Addr) (w : World) (hr : rd w a (ecells exL)) : Calls Try.prog 14 #[.int .i64 4, .slice a 5 5, .int .i64 0, .int .i64 3] w (CutPost 4 0 3 exL w) := cut_any 4 a 5 5 exL 0 3 w hr rfl vex
theorem ex_checkc (a : Option Addr) (a2 : Option Addr) (fl : List Int) (w : World) (hr : rd w a (ecells exL)) (hr2 : rd w a2 (ints fl)) (hl : fl.length = 5) : Calls Try.prog 21 #[.int .i64 4, .slice a 5 5, .int .i64 0, .int .i64 3, .slice a2 5 5] w (CheckPost 4 ((0 : Nat) : Int) ((3 : Nat) : Int) exL fl w) := check_net 4 a 5 5 exL ((0 : Nat) : Int) ((3 : Nat) : Int) a2 5 5 fl w hr rfl (by omega) hr2 hl (by omega) vex rfl

def LivesPost (w : World) (e : Ending) (w' : World) : Prop := e = .returned (.bool true) ∧ Below w.heap.size w w'

set_option maxHeartbeats 4000000 in
set_option maxRecDepth 100000 in
theorem lives_any (w : World) : Calls Try.prog 19 #[] w (LivesPost w) := by
  go_enter Try.func19, Try.ntmps19
  go_wp2_with fail
  refine (example_any _).mono ?_
  rintro e w1 ⟨a, rfl, hS1⟩
  go_wp2_with fail
  refine (ex_max a _ (hS1.rd 0 rfl)).mono ?_
  rintro e w2 ⟨fl, set, value, a2, cap2, rfl, hF, hS2⟩
  obtain ⟨rfl, rfl, rfl⟩ := ex_found hF
  clear hF
  replace hS2 := hS1.call hS2
  clear hS1
  go_wp2_with fail
  refine (ex_cutc a _ (hS2.rd 0 rfl)).mono ?_
  rintro e w3 ⟨fl, set, value, a3, cap3, rfl, hF, hS3⟩
  obtain ⟨rfl, rfl, rfl⟩ := ex_found hF
  clear hF
  replace hS3 := hS2.call hS3
  clear hS2
  go_wp2_with fail
  refine (ex_checkc a _ [2, 0, 2, 0, 0] _ ((hS3.rd 0 rfl).alloc _) (((hS3.lit (ints [2, 0, 2, 0, 0]) 3 1 5 rfl (by unfold maxLen; omega)).front.rd 0 rfl)) rfl).mono ?_
  rintro e w4 ⟨r, x, ⟨rfl, hb4⟩, hR⟩
  obtain ⟨rfl, rfl⟩ := ex_check1 hR
  clear hR
  have hS4 := (hS3.alloc _).calm hb4
  clear hS3 hb4
  go_wp2_with fail
  refine (ex_checkc a _ [2, 0, 1, 0, 0] _ ((hS4.rd 0 rfl).alloc _) (((hS4.lit (ints [2, 0, 1, 0, 0]) 3 1 5 rfl (by unfold maxLen; omega)).front.rd 0 rfl)) rfl).mono ?_
  rintro e w5 ⟨r, x, ⟨rfl, hb5⟩, hR⟩
  obtain ⟨rfl, rfl⟩ := ex_check2 hR
  clear hR
  have hS5 := (hS4.alloc _).calm hb5
  clear hS4 hb5
  go_wp2_with fail
  refine (ex_checkc a _ [4, 0, 2, 0, 0] _ ((hS5.rd 0 rfl).alloc _) (((hS5.lit (ints [4, 0, 2, 0, 0]) 3 1 5 rfl (by unfold maxLen; omega)).front.rd 0 rfl)) rfl).mono ?_
  rintro e w6 ⟨r, x, ⟨rfl, hb6⟩, hR⟩
  obtain ⟨rfl, rfl⟩ := ex_check3 hR
  clear hR
  have hS6 := (hS5.alloc _).calm hb6
  clear hS5 hb6
  go_wp2_with fail
  refine (across_any 4 a 5 5 exL _ 4 4 [true, true, false, false] _ ((hS6.rd 0 rfl).alloc _) rfl (by omega) (((hS6.lit (bools [true, true, false, false]) 4 1 4 rfl (by unfold maxLen; omega)).front.rd 0 rfl)) rfl (by omega)).mono ?_
  rw [ex_acr1]
  rintro e w7 ⟨rfl, hb7⟩
  have hS7 := (hS6.alloc _).calm hb7
  clear hS6 hb7
  go_wp2_with fail
  refine (across_any 4 a 5 5 exL _ 4 4 [true, true, true, false] _ ((hS7.rd 0 rfl).alloc _) rfl (by omega) (((hS7.lit (bools [true, true, true, false]) 4 1 4 rfl (by unfold maxLen; omega)).front.rd 0 rfl)) rfl (by omega)).mono ?_
  rw [ex_acr2]
  rintro e w8 ⟨rfl, hb8⟩
  have hS8 := (hS7.alloc _).calm hb8
  clear hS7 hb8
  go_wp2_with fail
  refine (sameints_any a2 5 cap2 [3, 2, 2, 3, 1] _ 5 5 [3, 2, 2, 3, 1] _ ((hS8.rd 1 rfl).alloc _) rfl (((hS8.lit (ints [3, 2, 2, 3, 1]) 3 1 5 rfl (by unfold maxLen; omega)).front.rd 0 rfl)) rfl (by omega) (by omega)).mono ?_
  rintro e w9 ⟨b, rfl, hb, hb9⟩
  obtain rfl : b = true := hb.2 rfl
  clear hb
  have hS9 := (hS8.alloc _).calm hb9
  clear hS8 hb9
  go_wp2_with fail
  refine (same_any a3 4 cap3 [true, false, false, false] _ 4 4 [true, false, false, false] _ ((hS9.rd 2 rfl).alloc _) rfl (((hS9.lit (bools [true, false, false, false]) 4 1 4 rfl (by unfold maxLen; omega)).front.rd 0 rfl)) rfl (by omega) (by omega)).mono ?_
  rintro e w10 ⟨b, rfl, hb, hb10⟩
  obtain rfl : b = true := hb.2 rfl
  clear hb
  have hS10 := (hS9.alloc _).calm hb10
  clear hS9 hb10
  go_wp2_with fail
  go_ret
  exact ⟨rfl, hS10.below⟩

end Go.Proofs.Ytbddkmhpfbmcmaa
