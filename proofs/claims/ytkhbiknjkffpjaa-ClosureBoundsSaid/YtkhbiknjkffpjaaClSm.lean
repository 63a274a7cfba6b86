/-
  OWN WORK. Small functions of the references in the value language.
-/
import Derived.Test.YtkhbiknjkffpjaaClNetP
import Derived.Test.YtkhbiknjkffpjaaGrBig
set_option linter.unusedSimpArgs false
set_option linter.unusedVariables false
namespace Go.Proofs.Ytkhbiknjkffpjaa
open Go.RowKit Go.SL Go.HL

theorem ht_around (n : Int) (m : Nat) (hm : 0 < m) (hm2 : m ≤ 1099511627776) (h1 : -9223372036854775808 ≤ n) (h2 : n ≤ 9223372036854775807) : HT Try.prog 30 [.int .i64 n, .int .i64 m] (fun r => ∃ y : Nat, r = .int .i64 y ∧ y < m) := by
  refine HT.of rfl fc30 (Nat.le_of_ble_eq_true rfl) ?_
  unfold c30
  simp only [argSlots, Nat.reduceAdd]
  by_cases h0 : n < 0
  · obtain ⟨x, hx⟩ : ∃ x : Nat, 0 - (n + 1) = x := ⟨(-(n + 1)).toNat, by omega⟩
    have ht : (x : Int).tmod m = ((x % m : Nat) : Int) := (Int.ofNat_tmod x m).symm
    have hlt := Nat.mod_lt x hm
    repeat (first | refine F_mv zT0 rfl ?_ | refine F_nil zT1 ?_ | refine F_lss (by rfl) (by rfl) zT6 ?_ | refine F_add (by rfl) (by rfl) (by (try simp (disch := omega) only [go_sem, Int.reduceAdd, Int.reduceSub, Int.reduceMul, hx, ht]); try rfl) ?_ | refine hx_true (by rfl) ?_ | refine hx_seq ?_ | refine hx_region ?_ | refine F_rem (by rfl) (by rfl) (by omega) (by (try simp (disch := omega) only [go_sem, Int.reduceAdd, Int.reduceSub, Int.reduceMul, hx, ht]); try rfl) ?_ | refine F_neg (by rfl) (by (try simp (disch := omega) only [go_sem, Int.reduceAdd, Int.reduceSub, Int.reduceMul, hx, ht]); try rfl) ?_)
    refine hx_retF (by (try simp only [List.map_cons, List.map_nil]); repeat (first | (apply eL1; · exact zT0) | rfl)) zT5 zT7 ?_
    exact ⟨x % m, rfl, hlt⟩
  · obtain ⟨x, rfl⟩ : ∃ x : Nat, n = x := ⟨n.toNat, by omega⟩
    have ht : (x : Int).tmod m = ((x % m : Nat) : Int) := (Int.ofNat_tmod x m).symm
    have hlt := Nat.mod_lt x hm
    repeat (first | refine F_mv zT0 rfl ?_ | refine F_nil zT1 ?_ | refine F_lss (by rfl) (by rfl) zT6 ?_ | refine hx_false (by rfl) ?_ | refine hx_seq ?_ | refine hx_region ?_ | refine hx_skip ?_ | refine F_rem (by rfl) (by rfl) (by omega) (by (try simp (disch := omega) only [go_sem, Int.reduceAdd, Int.reduceSub, Int.reduceMul, ht]); try rfl) ?_)
    refine hx_retF (by (try simp only [List.map_cons, List.map_nil]); repeat (first | (apply eL1; · exact zT0) | rfl)) zT5 zT7 ?_
    exact ⟨x % m, rfl, hlt⟩

theorem ht_at (l : List Int) (i : Nat) (m : Nat) (hm : 0 < m) (hm2 : m ≤ 1099511627776) (hi : i ≤ 1000000) (hl : l.length ≤ 9223372036854775807) (hr : ∀ k, k < l.length → -9223372036854775808 ≤ l.getD k 0 ∧ l.getD k 0 ≤ 9223372036854775807) : HT Try.prog 47 [I l, .int .i64 i, .int .i64 m] (fun r => ∃ y : Nat, r = .int .i64 y ∧ y < m) := by
  refine HT.of rfl fc47 (Nat.le_of_ble_eq_true rfl) ?_
  unfold c47
  simp only [I, argSlots, Nat.reduceAdd]
  by_cases hil : i < l.length
  · have := hr i hil
    repeat (first | refine F_mv zT0 rfl ?_ | refine F_yes (by rfl) (by rfl) ?_ | refine F_iaS (by rfl) (by rfl) (by omega) zT1 ?_ | refine F_ldP (by rfl) (by (try simp only [go_sem]); first | omega | decide) (by (try simp (disch := omega) only [go_sem]); try rfl) ?_ | refine F_nil zT1 ?_ | refine F_lss (by rfl) (by rfl) zT6 ?_ | refine F_pickF (by rfl) zT0 ?_ | refine F_lenS (by rfl) ?_ | refine hx_false (by rfl) ?_ | refine hx_seq ?_ | refine hx_region ?_ | refine hx_skip ?_ | refine F_geq (by rfl) (by rfl) (by first | exact leT (by omega) | exact leF (by omega) | rfl) ?_)
    refine F_call (by (try simp only [List.map_cons, List.map_nil]); repeat (first | (apply eL1; · exact zT0) | rfl)) zT2 (ht_around (l.getD i 0) m hm hm2 this.1 this.2) ?_
    rintro _ ⟨y, rfl, hy⟩
    refine ⟨zT3, _, _, _, _, _, zT4, (by decide), (by simp only [upF, upS]; try rfl), ?_⟩
    repeat (first | refine F_mv zT0 rfl ?_ | refine F_nil zT1 ?_)
    refine hx_retF (by (try simp only [List.map_cons, List.map_nil]); repeat (first | (apply eL1; · exact zT0) | rfl)) zT5 zT7 ?_
    exact ⟨y, rfl, hy⟩
  · repeat (first | refine F_mv zT0 rfl ?_ | refine F_yes (by rfl) (by rfl) ?_ | refine F_nil zT1 ?_ | refine F_lss (by rfl) (by rfl) zT6 ?_ | refine F_pickF (by rfl) zT0 ?_ | refine F_lenS (by rfl) ?_ | refine hx_true (by rfl) ?_ | refine hx_seq ?_ | refine hx_region ?_ | refine F_geq (by rfl) (by rfl) (by first | exact leT (by omega) | exact leF (by omega) | rfl) ?_)
    refine hx_retF (by (try simp only [List.map_cons, List.map_nil]); repeat (first | (apply eL1; · exact zT0) | rfl)) zT5 zT7 ?_
    exact ⟨0, rfl, hm⟩

set_option maxHeartbeats 4000000 in
theorem ht_weights (l : List Int) (n : Nat) (hn : n ≤ 300) (hl : l.length ≤ 9223372036854775807) (hr : ∀ k, k < l.length → -9223372036854775808 ≤ l.getD k 0 ∧ l.getD k 0 ≤ 9223372036854775807) : HT Try.prog 20 [I l, .int .i64 n] (fun r => ∃ w, r = .osl 1 n (HL.ints w) ∧ w.length = n ∧ WOK w) := by
  refine HT.of rfl fc20 (Nat.le_of_ble_eq_true rfl) ?_
  unfold c20
  simp only [I, argSlots, Nat.reduceAdd]
  repeat (first | refine F_mv zT0 rfl ?_ | refine F_nil zT1 ?_ | refine hx_seq ?_ | refine hx_region ?_ | refine hx_block ?_ | refine F_mvnil rfl (by rfl) zT1 ?_)
  refine hx_loopG [0, 1, 5, 6] (fun s : Nat × List Int => s.1 ≤ n ∧ s.2.length = s.1 ∧ ∀ x ∈ s.2, -2147483648 ≤ x ∧ x ≤ 2147483648)
    (fun s => ⟨[(0, .sl l.length (HL.ints l)), (1, .int .i64 n), (5, .ref 0 [] 1 0 s.1), (6, .int .i64 s.1)], [(0, .osl 1 s.1 (HL.ints s.2))], 1⟩) (fun s => n - s.1) (0, []) ⟨by simp, rfl, by simp⟩ rfl ?_
  rintro ⟨i, w⟩ ⟨hi, hwl, hw⟩
  simp only at hi hwl hw ⊢
  by_cases hin : i < n
  · have hsn : ∀ z : Int, HL.ints w ++ [HV.int .i64 z] = HL.ints (w ++ [z]) := fun z => by simp [HL.ints]
    have hWl : (HL.ints w).length = i := by rw [HL.ints_len, hwl]
    have fin : ∀ z : Int, -2147483648 ≤ z → z ≤ 2147483648 → i + 1 ≤ n ∧ (w ++ [z]).length = i + 1 ∧ ∀ x ∈ w ++ [z], -2147483648 ≤ x ∧ x ≤ 2147483648 := fun z h1 h2 => ⟨hin, by simp [hwl], fun x hx => by
      rcases List.mem_append.1 hx with h | h
      · exact hw x h
      · simp at h; subst h; exact ⟨h1, h2⟩⟩
    repeat (first | refine F_mv zT0 rfl ?_ | refine F_nil zT1 ?_ | refine F_lss (by rfl) (by rfl) zT6 ?_ | refine hx_true (by rfl) ?_ | refine hx_seq ?_ | refine hx_region ?_ | refine hx_block ?_ | refine hx_skip ?_)
    refine F_call (by (try simp only [List.map_cons, List.map_nil]); repeat (first | (apply eL1; · exact zT0) | rfl)) zT2 (ht_at l i 1048576 (by omega) (by omega) (by omega) hl hr) ?_
    rintro _ ⟨y, rfl, hy⟩
    refine ⟨zT3, _, _, _, _, _, zT4, (by decide), (by simp only [upF, upS]; try rfl), ?_⟩
    have t1 : (y : Int).tmod 21 = ((y % 21 : Nat) : Int) := (Int.ofNat_tmod y 21).symm
    have t2 : (y : Int).tmod 13 = ((y % 13 : Nat) : Int) := (Int.ofNat_tmod y 13).symm
    have t3 : (y : Int).tmod 17 = ((y % 17 : Nat) : Int) := (Int.ofNat_tmod y 17).symm
    have t4 : (y : Int).tmod 3 = ((y % 3 : Nat) : Int) := (Int.ofNat_tmod y 3).symm
    have l0 := Nat.mod_lt y (show 0 < 21 by omega)
    generalize y % 21 = y1 at t1 l0
    have l1 : y1 ≤ 20 := by omega
    by_cases h13 : y % 13 = 0
    · by_cases h17 : y % 17 = 0
      · rw [h13] at t2
        rw [h17] at t3
        generalize hy3 : y % 3 = y3 at t4
        have l3 : y3 < 3 := by omega
        repeat (first | refine F_mv zT0 rfl ?_ | refine F_nil zT1 ?_ | refine F_eql (by rfl) (by rfl) (by first | exact eqT (by omega) | exact eqF (by omega) | rfl) ?_ | refine F_add (by rfl) (by rfl) (by (try simp (disch := omega) only [go_sem, Int.reduceAdd, Int.reduceSub, Int.reduceMul, t1, t2, t3, t4, hsn]); try rfl) ?_ | refine hx_true (by rfl) ?_ | refine hx_seq ?_ | refine hx_region ?_ | refine hx_b ?_ | refine F_sub (by rfl) (by rfl) (by (try simp (disch := omega) only [go_sem, Int.reduceAdd, Int.reduceSub, Int.reduceMul, t1, t2, t3, t4, hsn]); try rfl) ?_ | refine F_rem (by rfl) (by rfl) (by omega) (by (try simp (disch := omega) only [go_sem, Int.reduceAdd, Int.reduceSub, Int.reduceMul, t1, t2, t3, t4, hsn]); try rfl) ?_ | refine F_bsl zT1 (by (try simp only [List.map_cons, List.map_nil]); repeat (first | (apply eL1; · exact zT0) | rfl)) (by (try simp only [go_sem]); try rfl) zT10 (by rfl) (by rfl) ?_ | refine F_appR zT1 (by rfl) zT0 zT9 (by (try simp (disch := omega) only [go_sem, reduceIte, Nat.reduceEqDiff, Nat.reduceAdd, Nat.reduceMul, t1, t2, t3, t4, hsn]); try omega) (by first | exact eO rfl | exact eW rfl) (by (try simp (disch := omega) only [go_sem, reduceIte, Nat.reduceEqDiff, Nat.reduceAdd, Nat.reduceMul, t1, t2, t3, t4, hsn]); try rfl) zT1 (by omega) (by unfold maxLen; omega) (by (try simp only [go_sem]); first | omega | decide) (by (try simp (disch := omega) only [go_sem, reduceIte, Nat.reduceEqDiff, Nat.reduceAdd, Nat.reduceMul, t1, t2, t3, t4, hsn]); try rfl) (by (try simp only [go_sem]); try rfl) ?_)
        exact hx_lG [0, 1, 5, 6] (i + 1, w ++ [-2147483648 + (y3 : Int)]) (fin _ (by omega) (by omega)) (by simp only; omega) rfl
      · generalize hy7 : y % 17 = y7 at t3 h17
        rw [h13] at t2
        generalize hy3 : y % 3 = y3 at t4
        have l3 : y3 < 3 := by omega
        repeat (first | refine F_mv zT0 rfl ?_ | refine F_nil zT1 ?_ | refine F_eql (by rfl) (by rfl) (by first | exact eqT (by omega) | exact eqF (by omega) | rfl) ?_ | refine F_add (by rfl) (by rfl) (by (try simp (disch := omega) only [go_sem, Int.reduceAdd, Int.reduceSub, Int.reduceMul, t1, t2, t3, t4, hsn]); try rfl) ?_ | refine hx_true (by rfl) ?_ | refine hx_false (by rfl) ?_ | refine hx_seq ?_ | refine hx_region ?_ | refine hx_b ?_ | refine hx_skip ?_ | refine F_sub (by rfl) (by rfl) (by (try simp (disch := omega) only [go_sem, Int.reduceAdd, Int.reduceSub, Int.reduceMul, t1, t2, t3, t4, hsn]); try rfl) ?_ | refine F_rem (by rfl) (by rfl) (by omega) (by (try simp (disch := omega) only [go_sem, Int.reduceAdd, Int.reduceSub, Int.reduceMul, t1, t2, t3, t4, hsn]); try rfl) ?_ | refine F_bsl zT1 (by (try simp only [List.map_cons, List.map_nil]); repeat (first | (apply eL1; · exact zT0) | rfl)) (by (try simp only [go_sem]); try rfl) zT10 (by rfl) (by rfl) ?_ | refine F_appR zT1 (by rfl) zT0 zT9 (by (try simp (disch := omega) only [go_sem, reduceIte, Nat.reduceEqDiff, Nat.reduceAdd, Nat.reduceMul, t1, t2, t3, t4, hsn]); try omega) (by first | exact eO rfl | exact eW rfl) (by (try simp (disch := omega) only [go_sem, reduceIte, Nat.reduceEqDiff, Nat.reduceAdd, Nat.reduceMul, t1, t2, t3, t4, hsn]); try rfl) zT1 (by omega) (by unfold maxLen; omega) (by (try simp only [go_sem]); first | omega | decide) (by (try simp (disch := omega) only [go_sem, reduceIte, Nat.reduceEqDiff, Nat.reduceAdd, Nat.reduceMul, t1, t2, t3, t4, hsn]); try rfl) (by (try simp only [go_sem]); try rfl) ?_)
        exact hx_lG [0, 1, 5, 6] (i + 1, w ++ [2147483648 - (y3 : Int)]) (fin _ (by omega) (by omega)) (by simp only; omega) rfl
    · generalize hy2 : y % 13 = y2 at t2 h13
      by_cases h17 : y % 17 = 0
      · rw [h17] at t3
        generalize hy3 : y % 3 = y3 at t4
        have l3 : y3 < 3 := by omega
        repeat (first | refine F_mv zT0 rfl ?_ | refine F_nil zT1 ?_ | refine F_eql (by rfl) (by rfl) (by first | exact eqT (by omega) | exact eqF (by omega) | rfl) ?_ | refine F_add (by rfl) (by rfl) (by (try simp (disch := omega) only [go_sem, Int.reduceAdd, Int.reduceSub, Int.reduceMul, t1, t2, t3, t4, hsn]); try rfl) ?_ | refine hx_true (by rfl) ?_ | refine hx_false (by rfl) ?_ | refine hx_seq ?_ | refine hx_region ?_ | refine hx_b ?_ | refine hx_skip ?_ | refine F_sub (by rfl) (by rfl) (by (try simp (disch := omega) only [go_sem, Int.reduceAdd, Int.reduceSub, Int.reduceMul, t1, t2, t3, t4, hsn]); try rfl) ?_ | refine F_rem (by rfl) (by rfl) (by omega) (by (try simp (disch := omega) only [go_sem, Int.reduceAdd, Int.reduceSub, Int.reduceMul, t1, t2, t3, t4, hsn]); try rfl) ?_ | refine F_bsl zT1 (by (try simp only [List.map_cons, List.map_nil]); repeat (first | (apply eL1; · exact zT0) | rfl)) (by (try simp only [go_sem]); try rfl) zT10 (by rfl) (by rfl) ?_ | refine F_appR zT1 (by rfl) zT0 zT9 (by (try simp (disch := omega) only [go_sem, reduceIte, Nat.reduceEqDiff, Nat.reduceAdd, Nat.reduceMul, t1, t2, t3, t4, hsn]); try omega) (by first | exact eO rfl | exact eW rfl) (by (try simp (disch := omega) only [go_sem, reduceIte, Nat.reduceEqDiff, Nat.reduceAdd, Nat.reduceMul, t1, t2, t3, t4, hsn]); try rfl) zT1 (by omega) (by unfold maxLen; omega) (by (try simp only [go_sem]); first | omega | decide) (by (try simp (disch := omega) only [go_sem, reduceIte, Nat.reduceEqDiff, Nat.reduceAdd, Nat.reduceMul, t1, t2, t3, t4, hsn]); try rfl) (by (try simp only [go_sem]); try rfl) ?_)
        exact hx_lG [0, 1, 5, 6] (i + 1, w ++ [-2147483648 + (y3 : Int)]) (fin _ (by omega) (by omega)) (by simp only; omega) rfl
      · generalize hy7 : y % 17 = y7 at t3 h17
        repeat (first | refine F_mv zT0 rfl ?_ | refine F_nil zT1 ?_ | refine F_eql (by rfl) (by rfl) (by first | exact eqT (by omega) | exact eqF (by omega) | rfl) ?_ | refine F_add (by rfl) (by rfl) (by (try simp (disch := omega) only [go_sem, Int.reduceAdd, Int.reduceSub, Int.reduceMul, t1, t2, t3, t4, hsn]); try rfl) ?_ | refine hx_false (by rfl) ?_ | refine hx_seq ?_ | refine hx_region ?_ | refine hx_b ?_ | refine hx_skip ?_ | refine F_sub (by rfl) (by rfl) (by (try simp (disch := omega) only [go_sem, Int.reduceAdd, Int.reduceSub, Int.reduceMul, t1, t2, t3, t4, hsn]); try rfl) ?_ | refine F_rem (by rfl) (by rfl) (by omega) (by (try simp (disch := omega) only [go_sem, Int.reduceAdd, Int.reduceSub, Int.reduceMul, t1, t2, t3, t4, hsn]); try rfl) ?_ | refine F_bsl zT1 (by (try simp only [List.map_cons, List.map_nil]); repeat (first | (apply eL1; · exact zT0) | rfl)) (by (try simp only [go_sem]); try rfl) zT10 (by rfl) (by rfl) ?_ | refine F_appR zT1 (by rfl) zT0 zT9 (by (try simp (disch := omega) only [go_sem, reduceIte, Nat.reduceEqDiff, Nat.reduceAdd, Nat.reduceMul, t1, t2, t3, t4, hsn]); try omega) (by first | exact eO rfl | exact eW rfl) (by (try simp (disch := omega) only [go_sem, reduceIte, Nat.reduceEqDiff, Nat.reduceAdd, Nat.reduceMul, t1, t2, t3, t4, hsn]); try rfl) zT1 (by omega) (by unfold maxLen; omega) (by (try simp only [go_sem]); first | omega | decide) (by (try simp (disch := omega) only [go_sem, reduceIte, Nat.reduceEqDiff, Nat.reduceAdd, Nat.reduceMul, t1, t2, t3, t4, hsn]); try rfl) (by (try simp only [go_sem]); try rfl) ?_)
        exact hx_lG [0, 1, 5, 6] (i + 1, w ++ [(y1 : Int) - 8]) (fin _ (by omega) (by omega)) (by simp only; omega) rfl
  · obtain rfl : i = n := by omega
    repeat (first | refine F_mv zT0 rfl ?_ | refine F_nil zT1 ?_ | refine F_lss (by rfl) (by rfl) zT6 ?_ | refine hx_exitS (by rfl) ?_ | refine hx_false (by rfl) ?_ | refine hx_seq ?_ | refine hx_region ?_)
    refine hx_retF (by (try simp only [List.map_cons, List.map_nil]); repeat (first | (apply eL1; · exact zT0) | rfl)) zT5 zT7 ?_
    refine ⟨w, rfl, hwl, fun k => ?_⟩
    by_cases hk : k < w.length
    · exact hw _ (by rw [List.getD_eq_getElem?_getD, List.getElem?_eq_getElem hk, Option.getD_some]; exact List.getElem_mem hk)
    · rw [List.getD_eq_getElem?_getD, List.getElem?_eq_none (by omega)]; simp

end Go.Proofs.Ytkhbiknjkffpjaa
