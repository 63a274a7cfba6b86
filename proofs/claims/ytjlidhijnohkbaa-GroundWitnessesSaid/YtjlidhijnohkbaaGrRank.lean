/-
  OWN WORK. The program's Rank in the value language.
-/
import Derived.Test.YtjlidhijnohkbaaGrU
import Derived.Test.YtjlidhijnohkbaaGrW
set_option linter.unusedSimpArgs false
set_option linter.unusedVariables false
namespace Go.Proofs.Ytjlidhijnohkbaa
open Go.RowKit Go.HL

theorem ht_grank_bad (needs : List (List Int)) (bad : List Bool) (h1 : needs.length ≤ 9223372036854775807) (h2 : bad.length ≤ 9223372036854775807) (h3 : ∀ i, (needs.getD i []).length ≤ 9223372036854775807) (hv : ¬ VG needs bad) : HT Try.prog 17 [Gs needs, Bl bad] (fun r => r = .osl 1 0 []) := by
  refine HT.of rfl fc17 (Nat.le_of_ble_eq_true rfl) ?_
  unfold c17
  simp only [Gs, Bl, argSlots, Nat.reduceAdd]
  repeat (first | refine F_mv zT0 rfl ?_ | refine F_nil zT1 ?_ | refine hx_seq ?_ | refine hx_region ?_ | refine F_mvnil rfl (by rfl) zT1 ?_)
  refine F_call (by (try simp only [List.map_cons, List.map_nil]); repeat (first | (apply eL1; · exact zT0) | rfl)) (by simp (disch := omega) only [thawL, Gs, rowsI_strip, rowsI_win, HV.thaw, allIds, aget, nget, if_true, if_false, reduceIte, Nat.reduceEqDiff, stripL, HV.strip, win_intsE, win_boolsE, Nat.mul_one, List.cons_append, List.nil_append, List.append_nil, I, Bl, T3, List.getD_cons_zero, List.getD_cons_succ, HL.ints_strip, HL.bools_strip, trip_strip]; try rfl) (ht_gvalid needs bad h1 h2 h3) ?_
  rintro _ ⟨b, rfl, hb⟩
  refine ⟨(by simp only [refFreeL, HV.refFree, noRdL, HV.noRd, HL.ints_noRd, HL.bools_noRd, trip_noRd, Bool.or_true, Bool.true_or, Bool.or_false, Bool.false_or, Bool.and_true, Bool.true_and, Bool.and_self, List.isEmpty_nil, beq_self_eq_true, List.cons_append, List.nil_append]), _, _, _, _, _, zT4, (by decide), (by simp only [upF, upS]; try rfl), ?_⟩
  cases b with
  | true => exact absurd (hb.1 rfl) hv
  | false =>
    repeat (first | refine F_nil zT1 ?_ | refine hx_true (by rfl) ?_ | refine hx_seq ?_ | refine hx_region ?_ | refine F_mvnil rfl (by rfl) zT1 ?_ | refine F_notF (by rfl) ?_)
    refine hx_retF (by (try simp only [List.map_cons, List.map_nil]); repeat (first | (apply eL1; · exact zT0) | rfl)) zT5 zT7 ?_
    simp [tupOf]

set_option maxHeartbeats 8000000 in
theorem ht_grank (nd : List (List Nat)) (bad : List Bool) (g : Gr nd bad) : HT Try.prog 17 [Gs (nd.map nl), Bl bad] (fun r => ∃ rank, r = .osl 1 nd.length (HL.ints rank) ∧ IsRank nd bad rank) := by
  have hsz := g.size
  have hbl := g.bads
  have hnl : (nd.map nl).length = nd.length := by simp
  have hrow : ∀ i, ((nd.map nl).getD i []).length ≤ 256 := fun i => by rw [nl_getD, nl_len]; have := g.len i; omega
  refine HT.of rfl fc17 (Nat.le_of_ble_eq_true rfl) ?_
  unfold c17
  simp only [Gs, Bl, argSlots, Nat.reduceAdd]
  repeat (first | refine F_mv zT0 rfl ?_ | refine F_nil zT1 ?_ | refine hx_seq ?_ | refine hx_region ?_ | refine F_mvnil rfl (by rfl) zT1 ?_)
  refine F_call (by (try simp only [List.map_cons, List.map_nil]); repeat (first | (apply eL1; · exact zT0) | rfl)) (by simp (disch := omega) only [thawL, Gs, rowsI_strip, rowsI_win, HV.thaw, allIds, aget, nget, if_true, if_false, reduceIte, Nat.reduceEqDiff, stripL, HV.strip, win_intsE, win_boolsE, Nat.mul_one, List.cons_append, List.nil_append, List.append_nil, I, Bl, T3, List.getD_cons_zero, List.getD_cons_succ, HL.ints_strip, HL.bools_strip, trip_strip]; try rfl) (ht_gvalid (nd.map nl) bad (by omega) (by omega) (fun i => by have := hrow i; omega)) ?_
  rintro _ ⟨b, rfl, hb⟩
  obtain rfl : b = true := hb.2 g.vg
  refine ⟨(by simp only [refFreeL, HV.refFree, noRdL, HV.noRd, HL.ints_noRd, HL.bools_noRd, trip_noRd, Bool.or_true, Bool.true_or, Bool.or_false, Bool.false_or, Bool.and_true, Bool.true_and, Bool.and_self, List.isEmpty_nil, beq_self_eq_true, List.cons_append, List.nil_append]), _, _, _, _, _, zT4, (by decide), (by simp only [upF, upS]; try rfl), ?_⟩
  rw [hnl, hbl]
  repeat (first | refine F_mv zT0 rfl ?_ | refine F_nil zT1 ?_ | refine F_lenS (by rfl) ?_ | refine hx_false (by rfl) ?_ | refine hx_seq ?_ | refine hx_region ?_ | refine hx_block ?_ | refine hx_skip ?_ | refine F_mvnil rfl (by rfl) zT1 ?_ | refine F_notT (by rfl) ?_ | refine F_mksl zT1 (by rfl) (by omega) (by (try simp only [go_sem]); try rfl) (by (try simp only [go_sem]); try rfl) ?_)
  rw [← usersL_zero]
  refine hx_loopG [0, 1, 5, 6, 7, 8, 32, 33, 34] (fun s : Nat × List Int × List Int × Nat × List Nat => s.1 ≤ nd.length ∧ s.2.2.2.2.length = s.2.2.2.1 ∧ R0 nd bad s.1 s.2.1 s.2.2.1 s.2.2.2.2)
    (fun s => ⟨[(0, .sl nd.length (rowsI (nd.map nl))), (1, .sl nd.length (HL.bools bad)), (5, .ref 0 [] 1 0 nd.length), (6, .ref 1 [] 1 0 nd.length), (7, .ref 2 [] 1 0 nd.length), (8, .ref 3 [] 1 0 s.2.2.2.1), (32, .sl nd.length (rowsI (nd.map nl))), (33, .int .i64 nd.length), (34, .int .i64 s.1)], [(0, .osl 1 nd.length (HL.ints s.2.1)), (1, .osl 1 nd.length (HL.ints s.2.2.1)), (2, .osl 1 nd.length (rowsO (usersL nd s.1 0))), (3, .osl 1 s.2.2.2.1 (HL.ints (nl s.2.2.2.2)))], 4⟩)
    (fun s => nd.length - s.1) (0, List.replicate nd.length 0, List.replicate nd.length 0, 0, []) ⟨by simp, rfl, ⟨by simp, by simp, fun u hu => absurd hu (by simp), fun u hu => absurd hu (by simp), rfl⟩⟩ rfl ?_
  rintro ⟨i, rank, left, m, now⟩ ⟨hi, hm, hR⟩
  simp only at hi hm hR ⊢
  have hlr := hR.lr
  have hll := hR.ll
  by_cases hin : i < nd.length
  · have hlen := g.len i
    have hst := hR.step hin
    have hrl := nl_len (nd.getD i [])
    have hmf : m ≤ i := by rw [← hm, hR.now_]; exact firstTo_few _ _ _
    repeat (first | refine F_mv zT0 rfl ?_ | refine F_iaS (by rfl) (by rfl) (by omega) zT1 ?_ | refine F_iaR (by rfl) (by rfl) (by omega) zT1 ?_ | refine F_ldP (by rfl) (by (try simp only [go_sem]); first | omega | decide) (by (try simp (disch := omega) only [go_sem, nl_getD]); try rfl) ?_ | refine F_nil zT1 ?_ | refine F_lss (by rfl) (by rfl) zT6 ?_ | refine F_lenS (by rfl) ?_ | refine hx_true (by rfl) ?_ | refine hx_seq ?_ | refine hx_region ?_ | refine hx_block ?_ | refine hx_skip ?_ | refine F_st (by rfl) zT0 (by (try simp only [go_sem]); try rfl) (by first | rfl | exact HL.ints_flat _ | exact HL.bools_flat _) (by rfl) (by decide) (by first | exact eO rfl | exact eW rfl) (by (try simp only [go_sem]); try rfl) (by (try simp only [go_sem]); first | omega | decide) (by (try simp (disch := omega) only [go_sem, nl_getD]); try rfl) (by (try simp only [go_sem]); try rfl) ?_)
    refine hx_loopG [0, 1, 5, 6, 7, 8, 9, 10, 32, 33, 34, 47, 48, 49] (fun k : Nat => k ≤ (nd.getD i []).length)
      (fun k => ⟨[(0, .sl nd.length (rowsI (nd.map nl))), (1, .sl nd.length (HL.bools bad)), (5, .ref 0 [] 1 0 nd.length), (6, .ref 1 [] 1 0 nd.length), (7, .ref 2 [] 1 0 nd.length), (8, .ref 3 [] 1 0 m), (9, .int .i64 i), (10, .sl (nd.getD i []).length (HL.ints (nl (nd.getD i [])))), (32, .sl nd.length (rowsI (nd.map nl))), (33, .int .i64 nd.length), (34, .int .i64 i), (47, .sl (nd.getD i []).length (HL.ints (nl (nd.getD i [])))), (48, .int .i64 (nd.getD i []).length), (49, .int .i64 k)], [(0, .osl 1 nd.length (HL.ints (rank.set i (-1)))), (1, .osl 1 nd.length (HL.ints (left.set i ((nd.getD i []).length : Int)))), (2, .osl 1 nd.length (rowsO (usersL nd i k))), (3, .osl 1 m (HL.ints (nl now)))], 4⟩)
      (fun k => (nd.getD i []).length - k) 0 (by omega) rfl ?_
    intro k hk
    by_cases hkl : k < (nd.getD i []).length
    · have hj := g.lt i _ (getD_mem (nd.getD i []) k 0 hkl)
      have hul := usersL_len nd i k
      have hset := usersL_set g i k hkl
      have hfew := usersAt_few nd i k ((nd.getD i []).getD k 0)
      rw [← usersL_get nd i k hj] at hset hfew
      have hn1 := nl_len ((usersL nd i k).getD ((nd.getD i []).getD k 0) [])
      have hro := rowsO_set (usersL nd i k) ((nd.getD i []).getD k 0) ((usersL nd i k).getD ((nd.getD i []).getD k 0) [] ++ [i]) .dead (m := ((usersL nd i k).getD ((nd.getD i []).getD k 0) []).length + 1) (by simp)
      rw [hset] at hro
      repeat (first | refine F_mv zT0 rfl ?_ | refine F_iaS (by rfl) (by rfl) (by omega) zT1 ?_ | refine F_iaR (by rfl) (by rfl) (by omega) zT1 ?_ | refine F_ldP (by rfl) (by (try simp only [go_sem]); first | omega | decide) (by (try simp (disch := omega) only [go_sem, hro]); try rfl) ?_ | refine F_ldR (by rfl) (by first | exact eO rfl | exact eW rfl) (by (try simp (disch := omega) only [go_sem, reduceIte, Nat.reduceEqDiff, Nat.reduceAdd, Nat.reduceMul, hro]); try rfl) (by (try simp only [go_sem]); first | omega | decide) (by (try simp (disch := omega) only [go_sem, hro]); try rfl) zT0 ?_ | refine F_nil zT1 ?_ | refine F_lss (by rfl) (by rfl) zT6 ?_ | refine F_add (by rfl) (by rfl) (by (try simp (disch := omega) only [go_sem, Int.reduceAdd, Int.reduceSub, Int.reduceMul, hro]); try rfl) ?_ | refine hx_true (by rfl) ?_ | refine hx_seq ?_ | refine hx_region ?_ | refine hx_block ?_ | refine hx_b ?_ | refine hx_skip ?_ | refine F_stG (by rfl) zT0 (by (try simp only [go_sem]); try rfl) (by simp only [takeL, takeC, aget, Lk.upd, if_true, if_false, reduceIte, Nat.reduceEqDiff, List.append_nil, List.nil_append, List.cons_append]; try rfl) (by first | trivial | (refine ⟨?_, ?_⟩ <;> trivial)) (by rfl) (by first | exact Nat.zero_lt_one | decide) (by rfl) (by simp only [Lk.upd, aget, if_true, if_false, reduceIte, Nat.reduceEqDiff, reduceCtorEq]; try rfl) (by (try simp (disch := omega) only [go_sem, reduceIte, Nat.reduceEqDiff, Nat.reduceAdd, Nat.reduceMul, hro]); try rfl) (by (try simp only [go_sem]); first | omega | decide) (by (try simp (disch := omega) only [go_sem, hro]); try rfl) (by (try simp only [go_sem]); try rfl) (by simp only [upF, List.cons_append, List.nil_append, List.append_nil, List.map_cons, List.map_nil, HV.kill, killL, List.length_nil, List.length_cons, Nat.reduceEqDiff, Nat.reduceLT, Nat.reduceAdd, if_true, if_false, reduceIte, and_true, true_and, and_false, false_and, and_self, reduceCtorEq, Nat.lt_irrefl]; try rfl) ?_ | refine F_bsl zT1 (by (try simp only [List.map_cons, List.map_nil]); repeat (first | (apply eL1; · exact zT0) | rfl)) (by (try simp only [go_sem]); try rfl) (by first | rfl | exact HL.ints_flat _ | exact HL.bools_flat _) (by rfl) (by rfl) ?_ | refine F_appR zT1 (by rfl) zT0 zT9 (by (try simp (disch := omega) only [go_sem, reduceIte, Nat.reduceEqDiff, Nat.reduceAdd, Nat.reduceMul, hro]); try omega) (by first | exact eO rfl | exact eW rfl) (by (try simp (disch := omega) only [go_sem, reduceIte, Nat.reduceEqDiff, Nat.reduceAdd, Nat.reduceMul, hro]); try rfl) zT1 (by omega) (by unfold maxLen; omega) (by (try simp only [go_sem]); first | omega | decide) (by (try simp (disch := omega) only [go_sem, reduceIte, Nat.reduceEqDiff, Nat.reduceAdd, Nat.reduceMul, hro]); try rfl) (by (try simp only [go_sem]); try rfl) ?_)
      exact hx_lG [0, 1, 5, 6, 7, 8, 9, 10, 32, 33, 34, 47, 48, 49] (k + 1) hkl (by omega) rfl
    · obtain rfl : k = (nd.getD i []).length := by omega
      rw [usersL_end]
      by_cases he : nd.getD i [] = []
      · have he' : (nd.getD i []).length = 0 := by rw [he]; rfl
        cases hbi : bad.getD i false with
        | true =>
          rw [if_neg (by rw [hbi]; simp)] at hst
          repeat (first | refine F_mv zT0 rfl ?_ | refine F_yes (by rfl) (by rfl) ?_ | refine F_iaS (by rfl) (by rfl) (by omega) zT1 ?_ | refine F_ldP (by rfl) (by (try simp only [go_sem]); first | omega | decide) (by (try simp (disch := omega) only [go_sem, hbi]); try rfl) ?_ | refine F_nil zT1 ?_ | refine F_lss (by rfl) (by rfl) zT6 ?_ | refine F_eql (by rfl) (by rfl) (by first | exact eqT (by omega) | exact eqF (by omega) | rfl) ?_ | refine F_pickT (by rfl) zT0 ?_ | refine F_add (by rfl) (by rfl) (by (try simp (disch := omega) only [go_sem, Int.reduceAdd, Int.reduceSub, Int.reduceMul, hbi]); try rfl) ?_ | refine F_lenS (by rfl) ?_ | refine hx_exitS (by rfl) ?_ | refine hx_false (by rfl) ?_ | refine hx_seq ?_ | refine hx_region ?_ | refine hx_b ?_ | refine hx_skip ?_ | refine F_notT (by rfl) ?_)
          exact hx_lG [0, 1, 5, 6, 7, 8, 32, 33, 34] (i + 1, rank.set i (-1), left.set i ((nd.getD i []).length : Int), m, now) ⟨hin, hm, by simpa using hst⟩ (by simp only; omega) rfl
        | false =>
          rw [if_pos ⟨he, hbi⟩] at hst
          have hn2 := nl_len now
          repeat (first | refine F_mv zT0 rfl ?_ | refine F_yes (by rfl) (by rfl) ?_ | refine F_iaS (by rfl) (by rfl) (by omega) zT1 ?_ | refine F_ldP (by rfl) (by (try simp only [go_sem]); first | omega | decide) (by (try simp (disch := omega) only [go_sem, hbi]); try rfl) ?_ | refine F_nil zT1 ?_ | refine F_lss (by rfl) (by rfl) zT6 ?_ | refine F_eql (by rfl) (by rfl) (by first | exact eqT (by omega) | exact eqF (by omega) | rfl) ?_ | refine F_pickT (by rfl) zT0 ?_ | refine F_add (by rfl) (by rfl) (by (try simp (disch := omega) only [go_sem, Int.reduceAdd, Int.reduceSub, Int.reduceMul, hbi]); try rfl) ?_ | refine F_lenS (by rfl) ?_ | refine hx_exitS (by rfl) ?_ | refine hx_true (by rfl) ?_ | refine hx_false (by rfl) ?_ | refine hx_seq ?_ | refine hx_region ?_ | refine hx_b ?_ | refine F_notF (by rfl) ?_ | refine F_bsl zT1 (by (try simp only [List.map_cons, List.map_nil]); repeat (first | (apply eL1; · exact zT0) | rfl)) (by (try simp only [go_sem]); try rfl) (by first | rfl | exact HL.ints_flat _ | exact HL.bools_flat _) (by rfl) (by rfl) ?_ | refine F_appR zT1 (by rfl) zT0 zT9 (by (try simp (disch := omega) only [go_sem, reduceIte, Nat.reduceEqDiff, Nat.reduceAdd, Nat.reduceMul, hbi]); try omega) (by first | exact eO rfl | exact eW rfl) (by (try simp (disch := omega) only [go_sem, reduceIte, Nat.reduceEqDiff, Nat.reduceAdd, Nat.reduceMul, hbi]); try rfl) zT1 (by omega) (by unfold maxLen; omega) (by (try simp only [go_sem]); first | omega | decide) (by (try simp (disch := omega) only [go_sem, reduceIte, Nat.reduceEqDiff, Nat.reduceAdd, Nat.reduceMul, hbi]); try rfl) (by (try simp only [go_sem]); try rfl) ?_)
          exact hx_lG [0, 1, 5, 6, 7, 8, 32, 33, 34] (i + 1, rank.set i (-1), left.set i ((nd.getD i []).length : Int), m + 1, now ++ [i]) ⟨hin, by simp [hm], hst⟩ (by simp only; omega) rfl
      · have he' : (nd.getD i []).length ≠ 0 := fun h => he (List.eq_nil_of_length_eq_zero h)
        rw [if_neg (fun h => he h.1)] at hst
        repeat (first | refine F_mv zT0 rfl ?_ | refine F_no (by rfl) (by rfl) ?_ | refine F_nil zT1 ?_ | refine F_lss (by rfl) (by rfl) zT6 ?_ | refine F_eql (by rfl) (by rfl) (by first | exact eqT (by omega) | exact eqF (by omega) | rfl) ?_ | refine F_pickF (by rfl) zT0 ?_ | refine F_add (by rfl) (by rfl) zT11 ?_ | refine F_lenS (by rfl) ?_ | refine hx_exitS (by rfl) ?_ | refine hx_false (by rfl) ?_ | refine hx_seq ?_ | refine hx_region ?_ | refine hx_b ?_ | refine hx_skip ?_)
        exact hx_lG [0, 1, 5, 6, 7, 8, 32, 33, 34] (i + 1, rank.set i (-1), left.set i ((nd.getD i []).length : Int), m, now) ⟨hin, hm, by simpa using hst⟩ (by simp only; omega) rfl
  · obtain rfl : i = nd.length := by omega
    have h0 := Rd.first g hR.lr hR.ll hR.rank_ hR.left_
    rw [← hR.now_] at h0
    have hU : stripL (win (rowsO (usersL nd nd.length 0)) 0 (nd.length * 1)) = rowsI ((usersL nd nd.length 0).map nl) := by rw [rowsO_win _ (by rw [usersL_len]; omega), rowsO_strip]
    have hUl : ((usersL nd nd.length 0).map nl).length = nd.length := by rw [List.length_map, usersL_len]
    have hUg : ∀ j, j < nd.length → ((usersL nd nd.length 0).map nl).getD j [] = nl (usersOf nd j) := fun j hj => by rw [nl_getD, usersL_of nd hj]
    generalize (usersL nd nd.length 0).map nl = U at hU hUl hUg
    refine hx_seq ?_
    refine hx_region ?_
    repeat (first | refine F_nil zT1 ?_ | refine F_lss (by rfl) (by rfl) zT6 ?_)
    refine hx_seq ?_
    refine hx_false (by rfl) ?_
    refine hx_exitS (by rfl) ?_
    refine hx_freezeN 2 [1, 5, 6, 7, 8] _ (congrArg (fun c : List HV => (⟨[(1, .sl nd.length (HL.bools bad)), (5, .ref 0 [] 1 0 nd.length), (6, .ref 1 [] 1 0 nd.length), (7, .sl nd.length c), (8, .ref 2 [] 1 0 m)], [(0, .osl 1 nd.length (HL.ints rank)), (1, .osl 1 nd.length (HL.ints left)), (2, .osl 1 m (HL.ints (nl now)))], 3⟩ : St)) hU) ?_
    clear hR hlr hll hU
    repeat (first | refine F_mv zT0 rfl ?_ | refine F_nil zT1 ?_ | refine hx_seq ?_ | refine hx_region ?_ | refine hx_block ?_)
    refine hx_loopG [1, 5, 6, 7, 8, 13] (fun s : Nat × List Nat × Nat × List Nat × List Int × List Int => s.2.2.2.1.length = s.2.2.1 ∧ Rd nd bad s.1 s.2.1 s.2.2.2.1 s.2.2.2.2.1 s.2.2.2.2.2)
      (fun s => ⟨[(1, .sl nd.length (HL.bools bad)), (5, .ref 0 [] 1 0 nd.length), (6, .ref 1 [] 1 0 nd.length), (7, .sl nd.length (rowsI U)), (8, .ref 2 [] 1 0 s.2.2.1), (13, .int .i64 s.1)], [(0, .osl 1 nd.length (HL.ints s.2.2.2.2.1)), (1, .osl 1 nd.length (HL.ints s.2.2.2.2.2)), (2, .osl 1 s.2.2.1 (HL.ints (nl s.2.2.2.1)))], 3⟩)
      (fun s => nd.length - s.2.1.length) (0, [], m, now, rank, left) ⟨hm, h0⟩ rfl ?_
    clear h0 hm hi hin
    clear left rank now m
    rintro ⟨r, D, m, now, rank, left⟩ ⟨hm, h0⟩
    simp only at hm h0 ⊢
    have hlr := h0.lr
    have hll := h0.ll
    have hds := h0.size
    have hfew := h0.few
    by_cases hm0 : m = 0
    · have hnow : now = [] := List.eq_nil_of_length_eq_zero (by omega)
      subst hnow
      repeat (first | refine F_mv zT0 rfl ?_ | refine F_nil zT1 ?_ | refine F_lenR (by rfl) ?_ | refine hx_exitS (by rfl) ?_ | refine hx_false (by rfl) ?_ | refine hx_seq ?_ | refine hx_region ?_ | refine F_gtr (by rfl) (by rfl) zT6 ?_)
      refine hx_retF (by (try simp only [List.map_cons, List.map_nil]); repeat (first | (apply eL1; · exact zT0) | rfl)) zT5 zT7 ?_
      exact ⟨rank, rfl, h0.ranks g⟩
    · have hne : now ≠ [] := fun h => hm0 (by rw [← hm, h]; rfl)
      have hnlen := nl_len now
      repeat (first | refine F_mv zT0 rfl ?_ | refine F_nil zT1 ?_ | refine F_lenR (by rfl) ?_ | refine hx_true (by rfl) ?_ | refine hx_seq ?_ | refine hx_region ?_ | refine hx_block ?_ | refine hx_skip ?_ | refine F_mvnil rfl (by rfl) zT1 ?_ | refine F_gtr (by rfl) (by rfl) zT6 ?_)
      refine hx_loopG [1, 5, 6, 7, 13, 14, 84, 85, 86] (fun s : Nat × List Int × List Int × Nat × List Nat => s.1 ≤ now.length ∧ s.2.2.2.2.length = s.2.2.2.1 ∧ Md nd bad r D now rank s.1 s.2.1 s.2.2.1 s.2.2.2.2)
        (fun s => ⟨[(1, .sl nd.length (HL.bools bad)), (5, .ref 0 [] 1 0 nd.length), (6, .ref 1 [] 1 0 nd.length), (7, .sl nd.length (rowsI U)), (13, .int .i64 r), (14, .ref 2 [] 1 0 s.2.2.2.1), (84, .ref 3 [] 1 0 m), (85, .int .i64 m), (86, .int .i64 s.1)], [(0, .osl 1 nd.length (HL.ints s.2.1)), (1, .osl 1 nd.length (HL.ints s.2.2.1)), (2, .osl 1 s.2.2.2.1 (HL.ints (nl s.2.2.2.2))), (3, .osl 1 m (HL.ints (nl now)))], 4⟩)
        (fun s => now.length - s.1) (0, rank, left, 0, []) ⟨by simp, rfl, Md.first h0⟩ rfl ?_
      rintro ⟨k, rank1, left1, q, next⟩ ⟨hk, hq, hM⟩
      simp only at hk hq hM ⊢
      have hlr1 := hM.lr
      have hll1 := hM.ll
      by_cases hkl : k < now.length
      · have hnk := h0.lt _ (List.mem_append.2 (.inr (getD_mem now k 0 hkl)))
        have hUn := hUg _ hnk
        have hnu := nl_len (usersOf nd (now.getD k 0))
        have hul2 : (usersOf nd (now.getD k 0)).length ≤ nd.length := nodup_lt_len (usersOf_nodup nd _) fun u hu => (usersOf_mem.1 hu).1
        repeat (first | refine F_mv zT0 rfl ?_ | refine F_iaS (by rfl) (by rfl) (by omega) zT1 ?_ | refine F_iaR (by rfl) (by rfl) (by omega) zT1 ?_ | refine F_ldP (by rfl) (by (try simp only [go_sem]); first | omega | decide) (by (try simp (disch := omega) only [go_sem, hUn]); try rfl) ?_ | refine F_ldR (by rfl) (by first | exact eO rfl | exact eW rfl) (by (try simp (disch := omega) only [go_sem, reduceIte, Nat.reduceEqDiff, Nat.reduceAdd, Nat.reduceMul, hUn]); try rfl) (by (try simp only [go_sem]); first | omega | decide) (by (try simp (disch := omega) only [go_sem, hUn]); try rfl) zT0 ?_ | refine F_nil zT1 ?_ | refine F_lss (by rfl) (by rfl) zT6 ?_ | refine F_lenS (by rfl) ?_ | refine hx_true (by rfl) ?_ | refine hx_seq ?_ | refine hx_region ?_ | refine hx_block ?_ | refine hx_skip ?_ | refine F_st (by rfl) zT0 (by (try simp only [go_sem]); try rfl) (by first | rfl | exact HL.ints_flat _ | exact HL.bools_flat _) (by rfl) (by decide) (by first | exact eO rfl | exact eW rfl) (by (try simp only [go_sem]); try rfl) (by (try simp only [go_sem]); first | omega | decide) (by (try simp (disch := omega) only [go_sem, hUn]); try rfl) (by (try simp only [go_sem]); try rfl) ?_)
        refine hx_loopG [1, 5, 6, 7, 13, 14, 84, 85, 86, 97, 98, 99] (fun s : Nat × List Int × Nat × List Nat => s.1 ≤ (usersOf nd (now.getD k 0)).length ∧ s.2.2.2.length = s.2.2.1 ∧ Mi nd bad D now k s.1 s.2.1 s.2.2.2)
          (fun s => ⟨[(1, .sl nd.length (HL.bools bad)), (5, .ref 0 [] 1 0 nd.length), (6, .ref 1 [] 1 0 nd.length), (7, .sl nd.length (rowsI U)), (13, .int .i64 r), (14, .ref 2 [] 1 0 s.2.2.1), (84, .ref 3 [] 1 0 m), (85, .int .i64 m), (86, .int .i64 k), (97, .sl (usersOf nd (now.getD k 0)).length (HL.ints (nl (usersOf nd (now.getD k 0))))), (98, .int .i64 (usersOf nd (now.getD k 0)).length), (99, .int .i64 s.1)], [(0, .osl 1 nd.length (HL.ints (rank1.set (now.getD k 0) (r : Int)))), (1, .osl 1 nd.length (HL.ints s.2.1)), (2, .osl 1 s.2.2.1 (HL.ints (nl s.2.2.2))), (3, .osl 1 m (HL.ints (nl now)))], 4⟩)
          (fun s => (usersOf nd (now.getD k 0)).length - s.1) (0, left1, q, next) ⟨by simp, hq, hM.enter⟩ rfl ?_
        have hstep := fun left' next' h => hM.step g h0 hkl (left' := left') (next' := next') h
        clear hM hq hll1
        clear next q left1
        rintro ⟨e, left1, q, next⟩ ⟨he, hq, hM⟩
        simp only at he hq hM ⊢
        have hll1 := hM.ll
        have hns := hM.size
        by_cases hel : e < (usersOf nd (now.getD k 0)).length
        · obtain ⟨hu1, hu2, hu3, hu4⟩ := hM.step g h0 hkl hel
          have hnn := nl_len next
          generalize hu : (usersOf nd (now.getD k 0)).getD e 0 = u at hu1 hu2 hu3 hu4
          by_cases hz : left1.getD u 0 - 1 = 0
          · cases hbu : bad.getD u false with
            | true =>
              rw [if_neg (by rw [hbu]; simp)] at hu4
              have hg1 : (HL.ints (left1.set u (left1.getD u 0 - 1))).getD u .dead = .int .i64 (left1.getD u 0 - 1) := by rw [HL.ints_get _ (by rw [List.length_set]; omega), getD_set _ _ _ _ _ (by omega), if_pos rfl]
              repeat (first | refine F_mv zT0 rfl ?_ | refine F_yes (by rfl) (by rfl) ?_ | refine F_iaS (by rfl) (by rfl) (by omega) zT1 ?_ | refine F_iaR (by rfl) (by rfl) (by omega) zT1 ?_ | refine F_ldP (by rfl) (by (try simp only [go_sem]); first | omega | decide) (by (try simp (disch := omega) only [go_sem, hu, hbu, hg1]); try rfl) ?_ | refine F_ldR (by rfl) (by first | exact eO rfl | exact eW rfl) (by (try simp (disch := omega) only [go_sem, reduceIte, Nat.reduceEqDiff, Nat.reduceAdd, Nat.reduceMul, hu, hbu, hg1]); try rfl) (by (try simp only [go_sem]); first | omega | decide) (by (try simp (disch := omega) only [go_sem, hu, hbu, hg1]); try rfl) zT0 ?_ | refine F_nil zT1 ?_ | refine F_lss (by rfl) (by rfl) zT6 ?_ | refine F_eql (by rfl) (by rfl) (by first | exact eqT (by omega) | exact eqF (by omega) | rfl) ?_ | refine F_pickT (by rfl) zT0 ?_ | refine F_add (by rfl) (by rfl) (by (try simp (disch := omega) only [go_sem, Int.reduceAdd, Int.reduceSub, Int.reduceMul, hu, hbu, hg1]); try rfl) ?_ | refine hx_true (by rfl) ?_ | refine hx_false (by rfl) ?_ | refine hx_seq ?_ | refine hx_region ?_ | refine hx_block ?_ | refine hx_b ?_ | refine hx_skip ?_ | refine F_sub (by rfl) (by rfl) (by (try simp (disch := omega) only [go_sem, Int.reduceAdd, Int.reduceSub, Int.reduceMul, hu, hbu, hg1]); try rfl) ?_ | refine F_notT (by rfl) ?_ | refine F_st (by rfl) zT0 (by (try simp only [go_sem]); try rfl) (by first | rfl | exact HL.ints_flat _ | exact HL.bools_flat _) (by rfl) (by decide) (by first | exact eO rfl | exact eW rfl) (by (try simp only [go_sem]); try rfl) (by (try simp only [go_sem]); first | omega | decide) (by (try simp (disch := omega) only [go_sem, hu, hbu, hg1]); try rfl) (by (try simp only [go_sem]); try rfl) ?_)
              exact hx_lG [1, 5, 6, 7, 13, 14, 84, 85, 86, 97, 98, 99] (e + 1, _, q, next) ⟨hel, hq, hu4⟩ (by simp only; omega) rfl
            | false =>
              rw [if_pos ⟨hz, hbu⟩] at hu4
              have hg1 : (HL.ints (left1.set u (left1.getD u 0 - 1))).getD u .dead = .int .i64 (left1.getD u 0 - 1) := by rw [HL.ints_get _ (by rw [List.length_set]; omega), getD_set _ _ _ _ _ (by omega), if_pos rfl]
              repeat (first | refine F_mv zT0 rfl ?_ | refine F_yes (by rfl) (by rfl) ?_ | refine F_iaS (by rfl) (by rfl) (by omega) zT1 ?_ | refine F_iaR (by rfl) (by rfl) (by omega) zT1 ?_ | refine F_ldP (by rfl) (by (try simp only [go_sem]); first | omega | decide) (by (try simp (disch := omega) only [go_sem, hu, hbu, hg1]); try rfl) ?_ | refine F_ldR (by rfl) (by first | exact eO rfl | exact eW rfl) (by (try simp (disch := omega) only [go_sem, reduceIte, Nat.reduceEqDiff, Nat.reduceAdd, Nat.reduceMul, hu, hbu, hg1]); try rfl) (by (try simp only [go_sem]); first | omega | decide) (by (try simp (disch := omega) only [go_sem, hu, hbu, hg1]); try rfl) zT0 ?_ | refine F_nil zT1 ?_ | refine F_lss (by rfl) (by rfl) zT6 ?_ | refine F_eql (by rfl) (by rfl) (by first | exact eqT (by omega) | exact eqF (by omega) | rfl) ?_ | refine F_pickT (by rfl) zT0 ?_ | refine F_add (by rfl) (by rfl) (by (try simp (disch := omega) only [go_sem, Int.reduceAdd, Int.reduceSub, Int.reduceMul, hu, hbu, hg1]); try rfl) ?_ | refine hx_true (by rfl) ?_ | refine hx_seq ?_ | refine hx_region ?_ | refine hx_block ?_ | refine hx_b ?_ | refine hx_skip ?_ | refine F_sub (by rfl) (by rfl) (by (try simp (disch := omega) only [go_sem, Int.reduceAdd, Int.reduceSub, Int.reduceMul, hu, hbu, hg1]); try rfl) ?_ | refine F_notF (by rfl) ?_ | refine F_st (by rfl) zT0 (by (try simp only [go_sem]); try rfl) (by first | rfl | exact HL.ints_flat _ | exact HL.bools_flat _) (by rfl) (by decide) (by first | exact eO rfl | exact eW rfl) (by (try simp only [go_sem]); try rfl) (by (try simp only [go_sem]); first | omega | decide) (by (try simp (disch := omega) only [go_sem, hu, hbu, hg1]); try rfl) (by (try simp only [go_sem]); try rfl) ?_ | refine F_bsl zT1 (by (try simp only [List.map_cons, List.map_nil]); repeat (first | (apply eL1; · exact zT0) | rfl)) (by (try simp only [go_sem]); try rfl) (by first | rfl | exact HL.ints_flat _ | exact HL.bools_flat _) (by rfl) (by rfl) ?_ | refine F_appR zT1 (by rfl) zT0 zT9 (by (try simp (disch := omega) only [go_sem, reduceIte, Nat.reduceEqDiff, Nat.reduceAdd, Nat.reduceMul, hu, hbu, hg1]); try omega) (by first | exact eO rfl | exact eW rfl) (by (try simp (disch := omega) only [go_sem, reduceIte, Nat.reduceEqDiff, Nat.reduceAdd, Nat.reduceMul, hu, hbu, hg1]); try rfl) zT1 (by omega) (by unfold maxLen; omega) (by (try simp only [go_sem]); first | omega | decide) (by (try simp (disch := omega) only [go_sem, reduceIte, Nat.reduceEqDiff, Nat.reduceAdd, Nat.reduceMul, hu, hbu, hg1]); try rfl) (by (try simp only [go_sem]); try rfl) ?_)
              exact hx_lG [1, 5, 6, 7, 13, 14, 84, 85, 86, 97, 98, 99] (e + 1, _, q + 1, next ++ [u]) ⟨hel, by simp [hq], hu4⟩ (by simp only; omega) rfl
          · rw [if_neg (fun h => hz h.1)] at hu4
            have hg1 : (HL.ints (left1.set u (left1.getD u 0 - 1))).getD u .dead = .int .i64 (left1.getD u 0 - 1) := by rw [HL.ints_get _ (by rw [List.length_set]; omega), getD_set _ _ _ _ _ (by omega), if_pos rfl]
            repeat (first | refine F_mv zT0 rfl ?_ | refine F_no (by rfl) (by rfl) ?_ | refine F_iaS (by rfl) (by rfl) (by omega) zT1 ?_ | refine F_iaR (by rfl) (by rfl) (by omega) zT1 ?_ | refine F_ldP (by rfl) (by (try simp only [go_sem]); first | omega | decide) (by (try simp (disch := omega) only [go_sem, hu, hg1]); try rfl) ?_ | refine F_ldR (by rfl) (by first | exact eO rfl | exact eW rfl) (by (try simp (disch := omega) only [go_sem, reduceIte, Nat.reduceEqDiff, Nat.reduceAdd, Nat.reduceMul, hu, hg1]); try rfl) (by (try simp only [go_sem]); first | omega | decide) (by (try simp (disch := omega) only [go_sem, hu, hg1]); try rfl) zT0 ?_ | refine F_nil zT1 ?_ | refine F_lss (by rfl) (by rfl) zT6 ?_ | refine F_eql (by rfl) (by rfl) (by first | exact eqT (by omega) | exact eqF (by omega) | rfl) ?_ | refine F_pickF (by rfl) zT0 ?_ | refine F_add (by rfl) (by rfl) (by (try simp (disch := omega) only [go_sem, Int.reduceAdd, Int.reduceSub, Int.reduceMul, hu, hg1]); try rfl) ?_ | refine hx_true (by rfl) ?_ | refine hx_false (by rfl) ?_ | refine hx_seq ?_ | refine hx_region ?_ | refine hx_block ?_ | refine hx_b ?_ | refine hx_skip ?_ | refine F_sub (by rfl) (by rfl) (by (try simp (disch := omega) only [go_sem, Int.reduceAdd, Int.reduceSub, Int.reduceMul, hu, hg1]); try rfl) ?_ | refine F_st (by rfl) zT0 (by (try simp only [go_sem]); try rfl) (by first | rfl | exact HL.ints_flat _ | exact HL.bools_flat _) (by rfl) (by decide) (by first | exact eO rfl | exact eW rfl) (by (try simp only [go_sem]); try rfl) (by (try simp only [go_sem]); first | omega | decide) (by (try simp (disch := omega) only [go_sem, hu, hg1]); try rfl) (by (try simp only [go_sem]); try rfl) ?_)
            exact hx_lG [1, 5, 6, 7, 13, 14, 84, 85, 86, 97, 98, 99] (e + 1, _, q, next) ⟨hel, hq, hu4⟩ (by simp only; omega) rfl
        · obtain rfl : e = (usersOf nd (now.getD k 0)).length := by omega
          have hfin := hstep _ _ hM
          repeat (first | refine F_mv zT0 rfl ?_ | refine F_nil zT1 ?_ | refine F_lss (by rfl) (by rfl) zT6 ?_ | refine F_add (by rfl) (by rfl) zT11 ?_ | refine hx_exitS (by rfl) ?_ | refine hx_false (by rfl) ?_ | refine hx_seq ?_ | refine hx_region ?_ | refine hx_b ?_)
          exact hx_lG [1, 5, 6, 7, 13, 14, 84, 85, 86] (k + 1, _, left1, q, next) ⟨hkl, hq, hfin⟩ (by simp only; omega) rfl
      · obtain rfl : k = now.length := by omega
        have hnew := Rd.step g h0 hne hM
        have hns := hM.size
        repeat (first | refine F_mv zT0 rfl ?_ | refine F_nil zT1 ?_ | refine F_lss (by rfl) (by rfl) zT6 ?_ | refine F_add (by rfl) (by rfl) zT11 ?_ | refine hx_exitS (by rfl) ?_ | refine hx_false (by rfl) ?_ | refine hx_seq ?_ | refine hx_region ?_ | refine hx_b ?_)
        exact hx_lG [1, 5, 6, 7, 8, 13] (r + 1, D ++ now, q, next, rank1, left1) ⟨hq, hnew⟩ (by simp only [List.length_append]; omega) rfl

end Go.Proofs.Ytjlidhijnohkbaa
