/-
  OWN WORK. Put of the reference of package ground: an increasing list with a further number.
-/
import Derived.Test.YtjlidhijnohkbaaHb
set_option linter.unusedSimpArgs false
set_option linter.unusedVariables false
namespace Go.Proofs.Ytjlidhijnohkbaa
open Go.RowKit Go.HL

/-- One element is looked at: what has been put out so far, and whether the number has been. -/
def putStep (x : Int) (p : List Int × Bool) (a : Int) : List Int × Bool :=
  ((if p.2 = false ∧ x ≤ a then p.1 ++ [x] else p.1) ++ (if a = x then [] else [a]), p.2 || decide (x ≤ a))
def putTo (l : List Int) (x : Int) (k : Nat) : List Int × Bool := (l.take k).foldl (putStep x) ([], false)
def putL (l : List Int) (x : Int) : List Int := let p := putTo l x l.length; if p.2 then p.1 else p.1 ++ [x]
theorem putTo_succ (l : List Int) (x : Int) (k : Nat) (hk : k < l.length) : putTo l x (k + 1) = putStep x (putTo l x k) (l.getD k 0) := by
  unfold putTo
  rw [List.take_succ_eq_append_getElem hk, List.foldl_append]
  simp [hk]
theorem putTo_len (l : List Int) (x : Int) : ∀ k, (putTo l x k).1.length ≤ 2 * k := by
  intro k
  induction k with
  | zero => simp [putTo]
  | succ k ih =>
    rcases Nat.lt_or_ge k l.length with h | h
    · rw [putTo_succ l x k h]
      simp only [putStep]
      split <;> split <;> simp <;> omega
    · have : putTo l x (k + 1) = putTo l x k := by unfold putTo; rw [List.take_of_length_le (by omega), List.take_of_length_le h]
      rw [this]; omega

set_option maxHeartbeats 4000000 in
theorem ht_put (l : List Int) (x : Int) (hl : l.length ≤ 1000000) : HT Try.prog 30 [I l, .int .i64 x] (fun r => r = .osl 1 (putL l x).length (HL.ints (putL l x))) := by
  refine HT.of rfl fc30 (Nat.le_of_ble_eq_true rfl) ?_
  unfold c30
  simp only [I, argSlots, Nat.reduceAdd]
  repeat (first | refine F_mv zT0 rfl ?_ | refine F_nil zT1 ?_ | refine hx_seq ?_ | refine hx_region ?_ | refine hx_block ?_ | refine F_mvnil rfl (by rfl) zT1 ?_)
  refine hx_loopG [0, 1, 5, 6, 7] (fun s : Nat × Nat × List Int × Bool => s.1 ≤ l.length ∧ s.2.2.1.length = s.2.1 ∧ s.2.2 = putTo l x s.1) (fun s => ⟨[(0, .sl l.length (HL.ints l)), (1, .int .i64 x), (5, .ref 0 [] 1 0 s.2.1), (6, .bool s.2.2.2), (7, .int .i64 s.1)], [(0, .osl 1 s.2.1 (HL.ints s.2.2.1))], 1⟩) (fun s => l.length - s.1) (0, 0, [], false) ⟨by simp, rfl, rfl⟩ rfl ?_
  rintro ⟨k, m, o, d⟩ ⟨hk, ho, hp⟩
  simp only at hk ho hp ⊢
  have hbd := putTo_len l x k
  rw [← hp] at hbd
  simp only at hbd
  by_cases hkl : k < l.length
  · have hs := putTo_succ l x k hkl
    rw [← hp] at hs
    simp only [putStep] at hs
    have hl1 : (o ++ [x]).length = m + 1 := by simp [ho]
    cases d with
    | true =>
      by_cases hx : l.getD k 0 = x
      · repeat (first | refine F_mv zT0 rfl ?_ | refine F_no (by rfl) (by rfl) ?_ | refine F_iaS (by rfl) (by rfl) (by omega) zT1 ?_ | refine F_ldP (by rfl) (by (try simp only [go_sem]); first | omega | decide) (by (try simp (disch := omega) only [go_sem]); try rfl) ?_ | refine F_nil zT1 ?_ | refine F_lss (by rfl) (by rfl) zT6 ?_ | refine F_neq (by rfl) (by rfl) (by first | exact neF (by omega) | exact neT (by omega) | rfl) ?_ | refine F_pickF (by rfl) zT0 ?_ | refine F_add (by rfl) (by rfl) zT11 ?_ | refine F_lenS (by rfl) ?_ | refine hx_true (by rfl) ?_ | refine hx_false (by rfl) ?_ | refine hx_seq ?_ | refine hx_region ?_ | refine hx_block ?_ | refine hx_b ?_ | refine hx_skip ?_ | refine F_notT (by rfl) ?_)
        exact hx_lG [0, 1, 5, 6, 7] (k + 1, m, o, true) ⟨hkl, ho, by rw [hs]; clear hs hp hbd; generalize l.getD k 0 = y at hx ⊢; simp [hx]⟩ (by simp only; omega) rfl
      · repeat (first | refine F_mv zT0 rfl ?_ | refine F_no (by rfl) (by rfl) ?_ | refine F_iaS (by rfl) (by rfl) (by omega) zT1 ?_ | refine F_ldP (by rfl) (by (try simp only [go_sem]); first | omega | decide) (by (try simp (disch := omega) only [go_sem]); try rfl) ?_ | refine F_nil zT1 ?_ | refine F_lss (by rfl) (by rfl) zT6 ?_ | refine F_neq (by rfl) (by rfl) (by first | exact neF (by omega) | exact neT (by omega) | rfl) ?_ | refine F_pickF (by rfl) zT0 ?_ | refine F_add (by rfl) (by rfl) zT11 ?_ | refine F_lenS (by rfl) ?_ | refine hx_true (by rfl) ?_ | refine hx_false (by rfl) ?_ | refine hx_seq ?_ | refine hx_region ?_ | refine hx_block ?_ | refine hx_b ?_ | refine hx_skip ?_ | refine F_notT (by rfl) ?_ | refine F_bsl zT1 (by (try simp only [List.map_cons, List.map_nil]); repeat (first | (apply eL1; · exact zT0) | rfl)) (by (try simp only [go_sem]); try rfl) (by first | rfl | exact HL.ints_flat _ | exact HL.bools_flat _) (by rfl) (by rfl) ?_ | refine F_appR zT1 (by rfl) zT0 zT9 (by (try simp (disch := omega) only [go_sem, reduceIte, Nat.reduceEqDiff, Nat.reduceAdd, Nat.reduceMul]); try omega) (by first | exact eO rfl | exact eW rfl) (by (try simp only [go_sem]); try rfl) zT1 (by omega) (by unfold maxLen; omega) (by (try simp only [go_sem]); first | omega | decide) (by (try simp (disch := omega) only [go_sem, reduceIte, Nat.reduceEqDiff, Nat.reduceAdd, Nat.reduceMul]); try rfl) (by (try simp only [go_sem]); try rfl) ?_)
        exact hx_lG [0, 1, 5, 6, 7] (k + 1, m + 1, o ++ [l.getD k 0], true) ⟨hkl, by simp [ho], by rw [hs]; clear hs hp hbd; generalize l.getD k 0 = y at hx ⊢; simp [hx]⟩ (by simp only; omega) rfl
    | false =>
      by_cases hge : x ≤ l.getD k 0
      · by_cases hx : l.getD k 0 = x
        · repeat (first | refine F_mv zT0 rfl ?_ | refine F_yes (by rfl) (by rfl) ?_ | refine F_iaS (by rfl) (by rfl) (by omega) zT1 ?_ | refine F_ldP (by rfl) (by (try simp only [go_sem]); first | omega | decide) (by (try simp (disch := omega) only [go_sem]); try rfl) ?_ | refine F_nil zT1 ?_ | refine F_lss (by rfl) (by rfl) zT6 ?_ | refine F_neq (by rfl) (by rfl) (by first | exact neF (by omega) | exact neT (by omega) | rfl) ?_ | refine F_pickT (by rfl) zT0 ?_ | refine F_add (by rfl) (by rfl) zT11 ?_ | refine F_lenS (by rfl) ?_ | refine hx_true (by rfl) ?_ | refine hx_false (by rfl) ?_ | refine hx_seq ?_ | refine hx_region ?_ | refine hx_block ?_ | refine hx_b ?_ | refine hx_skip ?_ | refine F_geq (by rfl) (by rfl) (by first | exact leT (by omega) | exact leF (by omega) | rfl) ?_ | refine F_notF (by rfl) ?_ | refine F_bsl zT1 (by (try simp only [List.map_cons, List.map_nil]); repeat (first | (apply eL1; · exact zT0) | rfl)) (by (try simp only [go_sem]); try rfl) (by first | rfl | exact HL.ints_flat _ | exact HL.bools_flat _) (by rfl) (by rfl) ?_ | refine F_appR zT1 (by rfl) zT0 zT9 (by (try simp (disch := omega) only [go_sem, reduceIte, Nat.reduceEqDiff, Nat.reduceAdd, Nat.reduceMul]); try omega) (by first | exact eO rfl | exact eW rfl) (by (try simp only [go_sem]); try rfl) zT1 (by omega) (by unfold maxLen; omega) (by (try simp only [go_sem]); first | omega | decide) (by (try simp (disch := omega) only [go_sem, reduceIte, Nat.reduceEqDiff, Nat.reduceAdd, Nat.reduceMul]); try rfl) (by (try simp only [go_sem]); try rfl) ?_)
          exact hx_lG [0, 1, 5, 6, 7] (k + 1, m + 1, o ++ [x], true) ⟨hkl, by simp [ho], by rw [hs]; clear hs hp hbd; generalize l.getD k 0 = y at hx ⊢; simp [hx]⟩ (by simp only; omega) rfl
        · repeat (first | refine F_mv zT0 rfl ?_ | refine F_yes (by rfl) (by rfl) ?_ | refine F_iaS (by rfl) (by rfl) (by omega) zT1 ?_ | refine F_ldP (by rfl) (by (try simp only [go_sem]); first | omega | decide) (by (try simp (disch := omega) only [go_sem]); try rfl) ?_ | refine F_nil zT1 ?_ | refine F_lss (by rfl) (by rfl) zT6 ?_ | refine F_neq (by rfl) (by rfl) (by first | exact neF (by omega) | exact neT (by omega) | rfl) ?_ | refine F_pickT (by rfl) zT0 ?_ | refine F_add (by rfl) (by rfl) zT11 ?_ | refine F_lenS (by rfl) ?_ | refine hx_true (by rfl) ?_ | refine hx_seq ?_ | refine hx_region ?_ | refine hx_block ?_ | refine hx_b ?_ | refine hx_skip ?_ | refine F_geq (by rfl) (by rfl) (by first | exact leT (by omega) | exact leF (by omega) | rfl) ?_ | refine F_notF (by rfl) ?_ | refine F_bsl zT1 (by (try simp only [List.map_cons, List.map_nil]); repeat (first | (apply eL1; · exact zT0) | rfl)) (by (try simp only [go_sem]); try rfl) (by first | rfl | exact HL.ints_flat _ | exact HL.bools_flat _) (by rfl) (by rfl) ?_ | refine F_appR zT1 (by rfl) zT0 zT9 (by (try simp (disch := omega) only [go_sem, reduceIte, Nat.reduceEqDiff, Nat.reduceAdd, Nat.reduceMul]); try omega) (by first | exact eO rfl | exact eW rfl) (by (try simp only [go_sem]); try rfl) zT1 (by omega) (by unfold maxLen; omega) (by (try simp only [go_sem]); first | omega | decide) (by (try simp (disch := omega) only [go_sem, reduceIte, Nat.reduceEqDiff, Nat.reduceAdd, Nat.reduceMul]); try rfl) (by (try simp only [go_sem]); try rfl) ?_)
          exact hx_lG [0, 1, 5, 6, 7] (k + 1, m + 1 + 1, o ++ [x] ++ [l.getD k 0], true) ⟨hkl, by simp [ho], by rw [hs]; clear hs hp hbd; generalize l.getD k 0 = y at hx hge ⊢; simp [hx, hge]⟩ (by simp only; omega) rfl
      · have hx : ¬ l.getD k 0 = x := by omega
        repeat (first | refine F_mv zT0 rfl ?_ | refine F_yes (by rfl) (by rfl) ?_ | refine F_iaS (by rfl) (by rfl) (by omega) zT1 ?_ | refine F_ldP (by rfl) (by (try simp only [go_sem]); first | omega | decide) (by (try simp (disch := omega) only [go_sem]); try rfl) ?_ | refine F_nil zT1 ?_ | refine F_lss (by rfl) (by rfl) zT6 ?_ | refine F_neq (by rfl) (by rfl) (by first | exact neF (by omega) | exact neT (by omega) | rfl) ?_ | refine F_pickT (by rfl) zT0 ?_ | refine F_add (by rfl) (by rfl) zT11 ?_ | refine F_lenS (by rfl) ?_ | refine hx_true (by rfl) ?_ | refine hx_false (by rfl) ?_ | refine hx_seq ?_ | refine hx_region ?_ | refine hx_block ?_ | refine hx_b ?_ | refine hx_skip ?_ | refine F_geq (by rfl) (by rfl) (by first | exact leT (by omega) | exact leF (by omega) | rfl) ?_ | refine F_notF (by rfl) ?_ | refine F_bsl zT1 (by (try simp only [List.map_cons, List.map_nil]); repeat (first | (apply eL1; · exact zT0) | rfl)) (by (try simp only [go_sem]); try rfl) (by first | rfl | exact HL.ints_flat _ | exact HL.bools_flat _) (by rfl) (by rfl) ?_ | refine F_appR zT1 (by rfl) zT0 zT9 (by (try simp (disch := omega) only [go_sem, reduceIte, Nat.reduceEqDiff, Nat.reduceAdd, Nat.reduceMul]); try omega) (by first | exact eO rfl | exact eW rfl) (by (try simp only [go_sem]); try rfl) zT1 (by omega) (by unfold maxLen; omega) (by (try simp only [go_sem]); first | omega | decide) (by (try simp (disch := omega) only [go_sem, reduceIte, Nat.reduceEqDiff, Nat.reduceAdd, Nat.reduceMul]); try rfl) (by (try simp only [go_sem]); try rfl) ?_)
        exact hx_lG [0, 1, 5, 6, 7] (k + 1, m + 1, o ++ [l.getD k 0], false) ⟨hkl, by simp [ho], by rw [hs]; clear hs hp hbd; generalize l.getD k 0 = y at hx hge ⊢; simp [hx, hge]⟩ (by simp only; omega) rfl
  · obtain rfl : k = l.length := by omega
    have hpl : putL l x = if d then o else o ++ [x] := by unfold putL; simp only; rw [← hp]
    cases d with
    | true =>
      repeat (first | refine F_mv zT0 rfl ?_ | refine F_nil zT1 ?_ | refine F_lss (by rfl) (by rfl) zT6 ?_ | refine F_lenS (by rfl) ?_ | refine hx_exitS (by rfl) ?_ | refine hx_false (by rfl) ?_ | refine hx_seq ?_ | refine hx_region ?_ | refine hx_skip ?_ | refine F_notT (by rfl) ?_)
      refine hx_retF (by (try simp only [List.map_cons, List.map_nil]); repeat (first | (apply eL1; · exact zT0) | rfl)) zT5 zT7 ?_
      rw [hpl]; simp [tupOf, ho]
    | false =>
      repeat (first | refine F_mv zT0 rfl ?_ | refine F_nil zT1 ?_ | refine F_lss (by rfl) (by rfl) zT6 ?_ | refine F_lenS (by rfl) ?_ | refine hx_exitS (by rfl) ?_ | refine hx_true (by rfl) ?_ | refine hx_false (by rfl) ?_ | refine hx_seq ?_ | refine hx_region ?_ | refine F_notF (by rfl) ?_ | refine F_bsl zT1 (by (try simp only [List.map_cons, List.map_nil]); repeat (first | (apply eL1; · exact zT0) | rfl)) (by (try simp only [go_sem]); try rfl) (by first | rfl | exact HL.ints_flat _ | exact HL.bools_flat _) (by rfl) (by rfl) ?_ | refine F_appR zT1 (by rfl) zT0 zT9 (by (try simp (disch := omega) only [go_sem, reduceIte, Nat.reduceEqDiff, Nat.reduceAdd, Nat.reduceMul]); try omega) (by first | exact eO rfl | exact eW rfl) (by (try simp only [go_sem]); try rfl) zT1 (by omega) (by unfold maxLen; omega) (by (try simp only [go_sem]); first | omega | decide) (by (try simp (disch := omega) only [go_sem, reduceIte, Nat.reduceEqDiff, Nat.reduceAdd, Nat.reduceMul]); try rfl) (by (try simp only [go_sem]); try rfl) ?_)
      refine hx_retF (by (try simp only [List.map_cons, List.map_nil]); repeat (first | (apply eL1; · exact zT0) | rfl)) zT5 zT7 ?_
      rw [hpl]; simp [tupOf, ho]

end Go.Proofs.Ytjlidhijnohkbaa
