/-
  OWN WORK. Small functions of the first reference, in the value language.
-/
import Derived.Test.YtpffacaeonccpaaHb
set_option linter.unusedSimpArgs false
set_option linter.unusedVariables false
namespace Go.Proofs.Ytpffacaeonccpaa
open Go.RowKit Go.HL

theorem ht_around (n : Int) (m : Nat) (hm : 0 < m) (hm2 : m ≤ 1099511627776) (h1 : -9223372036854775808 ≤ n) (h2 : n ≤ 9223372036854775807) : HT Try.prog 18 [.int .i64 n, .int .i64 m] (fun r => ∃ y : Nat, r = .int .i64 y ∧ y < m) := by
  refine HT.of rfl fc18 (Nat.le_of_ble_eq_true rfl) ?_
  unfold c18
  simp only [argSlots, Nat.reduceAdd]
  by_cases h0 : n < 0
  · obtain ⟨x, hx⟩ : ∃ x : Nat, 0 - (n + 1) = x := ⟨(-(n + 1)).toNat, by omega⟩
    have ht : (x : Int).tmod m = ((x % m : Nat) : Int) := (Int.ofNat_tmod x m).symm
    have hlt := Nat.mod_lt x hm
    repeat (first | refine F_mv zT0 rfl ?_ | refine F_nil zT1 ?_ | refine F_lss (by rfl) (by rfl) zT6 ?_ | refine F_add (by rfl) (by rfl) (by (try simp (disch := omega) only [go_sem, Int.reduceAdd, Int.reduceSub, Int.reduceMul, hx, ht]); try rfl) ?_ | refine hx_true (by rfl) ?_ | refine hx_seq ?_ | refine hx_region ?_ | refine F_rem (by rfl) (by rfl) (by omega) (by (try simp (disch := omega) only [go_sem, Int.reduceAdd, Int.reduceSub, Int.reduceMul, hx, ht]); try rfl) ?_ | refine F_neg (by rfl) (by (try simp (disch := omega) only [go_sem, Int.reduceAdd, Int.reduceSub, Int.reduceMul, hx, ht]); try rfl) ?_)
    refine hx_retF (by (try simp only [List.map_cons, List.map_nil]); repeat (first | (apply eL1; · exact zT0) | rfl)) zT5 zT7 ?_
    exact ⟨x % m, rfl, hlt⟩
  · obtain ⟨x, rfl⟩ : ∃ x : Nat, n = x := ⟨n.toNat, by omega⟩
    have ht : (x : Int).tmod m = ((x % m : Nat) : Int) := (Int.ofNat_tmod x m).symm
    have hlt := Nat.mod_lt x hm
    repeat (first | refine F_mv zT0 rfl ?_ | refine F_nil zT1 ?_ | refine F_lss (by rfl) (by rfl) zT6 ?_ | refine hx_false (by rfl) ?_ | refine hx_seq ?_ | refine hx_region ?_ | refine hx_skip ?_ | refine F_rem (by rfl) (by rfl) (by omega) (by (try simp (disch := omega) only [go_sem, Int.reduceAdd, Int.reduceSub, Int.reduceMul, ht]); try rfl) ?_)
    refine hx_retF (by (try simp only [List.map_cons, List.map_nil]); repeat (first | (apply eL1; · exact zT0) | rfl)) zT5 zT7 ?_
    exact ⟨x % m, rfl, hlt⟩

theorem ht_takeN (l : List Int) (m : Nat) (hl : l.length ≤ 9223372036854775807) (hm : m ≤ 100000) : HT Try.prog 4 [I l, .int .i64 m] (fun r => r = .osl 1 (l.take m).length (HL.ints (l.take m))) := by
  refine HT.of rfl fc4 (Nat.le_of_ble_eq_true rfl) ?_
  unfold c4
  simp only [I, argSlots, Nat.reduceAdd]
  have hwin : ∀ k : Nat, win (HL.ints l) 0 k = HL.ints (l.take k) := fun k => by
    unfold win HL.ints
    rw [List.drop_zero, List.map_take]
    split
    · rename_i e; rw [List.take_of_length_le (by omega)]
    · rfl
  by_cases h : m < l.length
  · have hmm : (if (m : Int) < (l.length : Int) then (m : Int) else (l.length : Int)) = (m : Int) := if_pos (by omega)
    have htl : (l.take m).length = m := by simp; omega
    rw [htl]
    have htb : (HL.ints (l.take m)).length = m := by rw [HL.ints_len, htl]
    repeat (first | refine F_mv zT0 rfl ?_ | refine F_nil zT1 ?_ | refine F_lenS (by rfl) ?_ | refine hx_seq ?_ | refine hx_region ?_ | refine F_mvnil rfl (by rfl) zT1 ?_ | refine F_slcS (by rfl) (by rfl) (by rfl) (by omega) (by (try simp only [go_sem]); try rfl) zT1 (by (try simp (disch := omega) only [go_sem, reduceIte, Nat.reduceEqDiff, Nat.reduceAdd, Nat.reduceMul, hmm, hwin, htl, htb]); try rfl) ?_ | refine F_mm (by rfl) (by rfl) (by (try simp only [go_sem, reduceIte, hmm, hwin, htl, htb]); try rfl) ?_ | refine F_appR zT1 (by rfl) zT0 zT9 (by (try simp (disch := omega) only [go_sem, reduceIte, Nat.reduceEqDiff, Nat.reduceAdd, Nat.reduceMul, hmm, hwin, htl, htb]); try omega) (by first | exact eO rfl | exact eW rfl) (by (try simp (disch := omega) only [go_sem, reduceIte, Nat.reduceEqDiff, Nat.reduceAdd, Nat.reduceMul, hmm, hwin, htl, htb]); try rfl) zT1 (by omega) (by unfold maxLen; omega) (by (try simp only [go_sem]); first | omega | decide) (by (try simp (disch := omega) only [go_sem, reduceIte, Nat.reduceEqDiff, Nat.reduceAdd, Nat.reduceMul, hmm, hwin, htl, htb]); try rfl) (by (try simp only [go_sem]); try rfl) ?_)
    refine hx_retF (by (try simp only [List.map_cons, List.map_nil]); repeat (first | (apply eL1; · exact zT0) | rfl)) zT5 zT7 ?_
    rfl
  · have hmm : (if (m : Int) < (l.length : Int) then (m : Int) else (l.length : Int)) = (l.length : Int) := if_neg (by omega)
    rw [List.take_of_length_le (by omega)]
    repeat (first | refine F_mv zT0 rfl ?_ | refine F_nil zT1 ?_ | refine F_lenS (by rfl) ?_ | refine hx_seq ?_ | refine hx_region ?_ | refine F_mvnil rfl (by rfl) zT1 ?_ | refine F_slcS (by rfl) (by rfl) (by rfl) (by omega) (by (try simp only [go_sem]); try rfl) zT1 (by (try simp (disch := omega) only [go_sem, reduceIte, Nat.reduceEqDiff, Nat.reduceAdd, Nat.reduceMul, hmm]); try rfl) ?_ | refine F_mm (by rfl) (by rfl) (by (try simp only [go_sem, reduceIte, hmm]); try rfl) ?_ | refine F_appR zT1 (by rfl) zT0 zT9 (by (try simp (disch := omega) only [go_sem, reduceIte, Nat.reduceEqDiff, Nat.reduceAdd, Nat.reduceMul, hmm]); try omega) (by first | exact eO rfl | exact eW rfl) (by (try simp (disch := omega) only [go_sem, reduceIte, Nat.reduceEqDiff, Nat.reduceAdd, Nat.reduceMul, hmm]); try rfl) zT1 (by omega) (by unfold maxLen; omega) (by (try simp only [go_sem]); first | omega | decide) (by (try simp (disch := omega) only [go_sem, reduceIte, Nat.reduceEqDiff, Nat.reduceAdd, Nat.reduceMul, hmm]); try rfl) (by (try simp only [go_sem]); try rfl) ?_)
    refine hx_retF (by (try simp only [List.map_cons, List.map_nil]); repeat (first | (apply eL1; · exact zT0) | rfl)) zT5 zT7 ?_
    rfl

end Go.Proofs.Ytpffacaeonccpaa
