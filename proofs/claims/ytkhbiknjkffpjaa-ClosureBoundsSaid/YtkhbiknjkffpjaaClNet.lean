/-
  OWN WORK. The network of weights and needs: program and reference, in the value language.
-/
import Derived.Test.YtkhbiknjkffpjaaClVal
import Derived.Test.YtkhbiknjkffpjaaClNetP
set_option linter.unusedSimpArgs false
set_option linter.unusedVariables false
namespace Go.Proofs.Ytkhbiknjkffpjaa
open Go.RowKit Go.SL Go.HL

theorem VW.of {w : List Int} {nd : List (List Nat)} {bad : List Bool} (g : Gr nd bad) (hw : WOK w) (hl : w.length = nd.length) : VW w (nd.map nl) :=
  ⟨by simpa using hl, by simpa using g.size, fun i _ => hw i, g.vg.ok⟩

set_option maxHeartbeats 8000000 in
theorem ht_cnet (w : List Int) (nd : List (List Nat)) (bad : List Bool) (g : Gr nd bad) (hw : WOK w) (hl : w.length = nd.length) : HT Try.prog 22 [I w, Gs (nd.map nl)] (fun r => r = .tup [.int .i64 ((nd.length : Int) + 2), .osl 3 (netE w nd).length (edges (netE w nd))]) := by
  have hsz := g.size
  have hnl : (nd.map nl).length = nd.length := by simp
  have hNl := netE_len g w
  have hN2 : nd.length * nd.length ≤ 256 * 256 := Nat.mul_le_mul hsz hsz
  have hvw := VW.of g hw hl
  have hcv := ht_cvalid w (nd.map nl) (by omega) (by omega) (fun i => by rw [nl_getD, nl_len]; have := g.len i; omega)
  simp only [Gs, I] at hcv
  rw [hnl, hl] at hcv
  refine HT.of rfl fc22 (Nat.le_of_ble_eq_true rfl) ?_
  unfold c22
  simp only [Gs, I, argSlots, Nat.reduceAdd]
  rw [hnl, hl]
  repeat (first | refine F_mv zT0 rfl ?_ | refine F_nil zT1 ?_ | refine hx_seq ?_ | refine hx_region ?_ | refine F_mvnil rfl (by rfl) zT1 ?_)
  refine F_call (by (try simp only [List.map_cons, List.map_nil]); repeat (first | (apply eL1; · exact zT0) | rfl)) zT2 (hcv) ?_
  rintro _ ⟨b, rfl, hb⟩
  obtain rfl : b = true := hb.2 hvw
  refine ⟨zT3, _, _, _, _, _, zT4, (by decide), (by simp only [upF, upS]; try rfl), ?_⟩
  repeat (first | refine F_mv zT0 rfl ?_ | refine F_nil zT1 ?_ | refine F_lenS (by rfl) ?_ | refine hx_false (by rfl) ?_ | refine hx_seq ?_ | refine hx_region ?_ | refine hx_block ?_ | refine hx_skip ?_ | refine F_mvnil rfl (by rfl) zT1 ?_ | refine F_notT (by rfl) ?_)
  refine hx_loopG [1, 6, 7, 20, 21, 22] (fun s : Nat × List Edge => s.1 ≤ nd.length ∧ s.2 = wEdges nd.length w s.1)
    (fun s => ⟨[(1, .sl nd.length (rowsI (nd.map nl))), (6, .int .i64 nd.length), (7, .ref 0 [] 3 0 s.2.length), (20, .sl nd.length (HL.ints w)), (21, .int .i64 nd.length), (22, .int .i64 s.1)], [(0, .osl 3 s.2.length (edges s.2))], 1⟩)
    (fun s => nd.length - s.1) (0, []) ⟨by simp, rfl⟩ rfl ?_
  rintro ⟨i, es⟩ ⟨hi, hes⟩
  simp only at hi hes ⊢
  have hel : es.length ≤ i := by rw [hes]; exact wEdges_len _ _ _
  by_cases hin : i < nd.length
  · obtain ⟨x, hx⟩ : ∃ x, w.getD i 0 = x := ⟨_, rfl⟩
    have hxr := hw i
    rw [hx] at hxr
    have hnx : es ++ wEdge nd.length i x = wEdges nd.length w (i + 1) := by rw [hes, ← hx]; rfl
    by_cases hp : 0 < x
    · have hsn : es ++ [⟨nd.length, i, x⟩] = wEdges nd.length w (i + 1) := by rw [← hnx]; unfold wEdge; rw [if_pos hp]
      repeat (first | refine F_mv zT0 rfl ?_ | refine F_iaS (by rfl) (by rfl) (by omega) zT1 ?_ | refine F_ldP (by rfl) (by (try simp only [go_sem]); first | omega | decide) (by (try simp (disch := omega) only [go_sem, hx]); try rfl) ?_ | refine F_nil zT1 ?_ | refine F_lss (by rfl) (by rfl) zT6 ?_ | refine F_add (by rfl) (by rfl) (by (try simp (disch := omega) only [go_sem, Int.reduceAdd, Int.reduceSub, Int.reduceMul, hx]); try rfl) ?_ | refine hx_true (by rfl) ?_ | refine hx_seq ?_ | refine hx_region ?_ | refine hx_block ?_ | refine hx_b ?_ | refine hx_skip ?_ | refine F_gtr (by rfl) (by rfl) zT6 ?_ | refine F_bsl zT1 (by (try simp only [List.map_cons, List.map_nil]); repeat (first | (apply eL1; · exact zT0) | rfl)) (by (try simp only [go_sem]); try rfl) zT10 (by rfl) (by rfl) ?_ | refine F_appR zT1 (by rfl) zT0 zT9 (by (try simp (disch := omega) only [go_sem, reduceIte, Nat.reduceEqDiff, Nat.reduceAdd, Nat.reduceMul, hx]); try omega) (by first | exact eO rfl | exact eW rfl) (by (try simp (disch := omega) only [go_sem, reduceIte, Nat.reduceEqDiff, Nat.reduceAdd, Nat.reduceMul, hx]); try rfl) zT1 (by omega) (by unfold maxLen; omega) (by (try simp only [go_sem]); first | omega | decide) (by (try simp (disch := omega) only [go_sem, reduceIte, Nat.reduceEqDiff, Nat.reduceAdd, Nat.reduceMul, hx]); try rfl) (by (try simp only [go_sem]); try rfl) ?_ | refine F_bld (by (try simp only [List.map_cons, List.map_nil]); repeat (first | (apply eP1; · exact zT0) | rfl)) (by simp only [fillAt, setFrom, cellsOf, List.set_cons_zero, List.set_cons_succ]; try rfl) (by simp [notDead]) ?_)
      exact hx_lG [1, 6, 7, 20, 21, 22] (i + 1, es ++ [⟨nd.length, i, x⟩]) ⟨hin, hsn⟩ (by simp only; omega) (by simp only [List.length_append, List.length_cons, List.length_nil, Nat.zero_add]; rfl)
    · by_cases hm : x < 0
      · have hsn : es ++ [⟨i, (nd.length : Int) + 1, 0 - x⟩] = wEdges nd.length w (i + 1) := by rw [← hnx]; unfold wEdge; rw [if_neg hp, if_pos hm, Int.zero_sub]
        repeat (first | refine F_mv zT0 rfl ?_ | refine F_iaS (by rfl) (by rfl) (by omega) zT1 ?_ | refine F_ldP (by rfl) (by (try simp only [go_sem]); first | omega | decide) (by (try simp (disch := omega) only [go_sem, hx]); try rfl) ?_ | refine F_nil zT1 ?_ | refine F_lss (by rfl) (by rfl) zT6 ?_ | refine F_add (by rfl) (by rfl) (by (try simp (disch := omega) only [go_sem, Int.reduceAdd, Int.reduceSub, Int.reduceMul, hx]); try rfl) ?_ | refine hx_true (by rfl) ?_ | refine hx_false (by rfl) ?_ | refine hx_seq ?_ | refine hx_region ?_ | refine hx_block ?_ | refine hx_b ?_ | refine hx_skip ?_ | refine F_gtr (by rfl) (by rfl) zT6 ?_ | refine F_neg (by rfl) (by (try simp (disch := omega) only [go_sem, Int.reduceAdd, Int.reduceSub, Int.reduceMul, hx]); try rfl) ?_ | refine F_bsl zT1 (by (try simp only [List.map_cons, List.map_nil]); repeat (first | (apply eL1; · exact zT0) | rfl)) (by (try simp only [go_sem]); try rfl) zT10 (by rfl) (by rfl) ?_ | refine F_appR zT1 (by rfl) zT0 zT9 (by (try simp (disch := omega) only [go_sem, reduceIte, Nat.reduceEqDiff, Nat.reduceAdd, Nat.reduceMul, hx]); try omega) (by first | exact eO rfl | exact eW rfl) (by (try simp (disch := omega) only [go_sem, reduceIte, Nat.reduceEqDiff, Nat.reduceAdd, Nat.reduceMul, hx]); try rfl) zT1 (by omega) (by unfold maxLen; omega) (by (try simp only [go_sem]); first | omega | decide) (by (try simp (disch := omega) only [go_sem, reduceIte, Nat.reduceEqDiff, Nat.reduceAdd, Nat.reduceMul, hx]); try rfl) (by (try simp only [go_sem]); try rfl) ?_ | refine F_bld (by (try simp only [List.map_cons, List.map_nil]); repeat (first | (apply eP1; · exact zT0) | rfl)) (by simp only [fillAt, setFrom, cellsOf, List.set_cons_zero, List.set_cons_succ]; try rfl) (by simp [notDead]) ?_)
        exact hx_lG [1, 6, 7, 20, 21, 22] (i + 1, es ++ [⟨i, (nd.length : Int) + 1, 0 - x⟩]) ⟨hin, hsn⟩ (by simp only; omega) (by simp only [List.length_append, List.length_cons, List.length_nil, Nat.zero_add]; rfl)
      · have hsn : es = wEdges nd.length w (i + 1) := by rw [← hnx]; unfold wEdge; rw [if_neg hp, if_neg hm, List.append_nil]
        repeat (first | refine F_mv zT0 rfl ?_ | refine F_iaS (by rfl) (by rfl) (by omega) zT1 ?_ | refine F_ldP (by rfl) (by (try simp only [go_sem]); first | omega | decide) (by (try simp (disch := omega) only [go_sem, hx]); try rfl) ?_ | refine F_nil zT1 ?_ | refine F_lss (by rfl) (by rfl) zT6 ?_ | refine F_add (by rfl) (by rfl) (by (try simp (disch := omega) only [go_sem, Int.reduceAdd, Int.reduceSub, Int.reduceMul, hx]); try rfl) ?_ | refine hx_true (by rfl) ?_ | refine hx_false (by rfl) ?_ | refine hx_seq ?_ | refine hx_region ?_ | refine hx_block ?_ | refine hx_b ?_ | refine hx_skip ?_ | refine F_gtr (by rfl) (by rfl) zT6 ?_)
        exact hx_lG [1, 6, 7, 20, 21, 22] (i + 1, es) ⟨hin, hsn⟩ (by simp only; omega) rfl
  · obtain rfl : i = nd.length := by omega
    obtain ⟨W, hW⟩ : ∃ W, wEdges nd.length w nd.length = W := ⟨_, rfl⟩
    have hWl : W.length ≤ nd.length := by rw [← hW]; exact wEdges_len _ _ _
    have hnet : netE w nd = W ++ nEdges nd nd.length := by unfold netE; rw [hW]
    rw [hW] at hes
    subst hes
    repeat (first | refine F_mv zT0 rfl ?_ | refine F_nil zT1 ?_ | refine F_lss (by rfl) (by rfl) zT6 ?_ | refine F_lenS (by rfl) ?_ | refine hx_exitS (by rfl) ?_ | refine hx_false (by rfl) ?_ | refine hx_seq ?_ | refine hx_region ?_ | refine hx_block ?_)
    refine hx_loopG [6, 7, 50, 51, 52] (fun s : Nat × List Edge => s.1 ≤ nd.length ∧ s.2 = es ++ nEdges nd s.1)
      (fun s => ⟨[(6, .int .i64 nd.length), (7, .ref 0 [] 3 0 s.2.length), (50, .sl nd.length (rowsI (nd.map nl))), (51, .int .i64 nd.length), (52, .int .i64 s.1)], [(0, .osl 3 s.2.length (edges s.2))], 1⟩)
      (fun s => nd.length - s.1) (0, es) ⟨by simp, by simp [nEdges]⟩ rfl ?_
    rintro ⟨i, fs⟩ ⟨hi, hfs⟩
    simp only at hi hfs ⊢
    have hNi := nEdges_len g i hi
    have hfl : fs.length ≤ 70000 := by
      rw [hfs, List.length_append]
      have : i * nd.length ≤ 256 * 256 := Nat.mul_le_mul (by omega) hsz
      omega
    by_cases hin : i < nd.length
    · obtain ⟨row, hrow⟩ : ∃ row, nd.getD i [] = row := ⟨_, rfl⟩
      have hrl : row.length ≤ nd.length := by rw [← hrow]; exact g.len i
      have hrlt : ∀ x ∈ row, x < nd.length := by rw [← hrow]; exact g.lt i
      have hnr := nl_len row
      repeat (first | refine F_mv zT0 rfl ?_ | refine F_iaS (by rfl) (by rfl) (by omega) zT1 ?_ | refine F_ldP (by rfl) (by (try simp only [go_sem]); first | omega | decide) (by (try simp (disch := omega) only [go_sem, nl_getD, hrow]); try rfl) ?_ | refine F_nil zT1 ?_ | refine F_lss (by rfl) (by rfl) zT6 ?_ | refine F_lenS (by rfl) ?_ | refine hx_true (by rfl) ?_ | refine hx_seq ?_ | refine hx_region ?_ | refine hx_block ?_ | refine hx_skip ?_)
      refine hx_loopG [6, 7, 10, 50, 51, 52, 57, 58, 59] (fun s : Nat × List Edge => s.1 ≤ row.length ∧ s.2 = fs ++ rEdges i row s.1)
        (fun s => ⟨[(6, .int .i64 nd.length), (7, .ref 0 [] 3 0 s.2.length), (10, .int .i64 i), (50, .sl nd.length (rowsI (nd.map nl))), (51, .int .i64 nd.length), (52, .int .i64 i), (57, .sl row.length (HL.ints (nl row))), (58, .int .i64 row.length), (59, .int .i64 s.1)], [(0, .osl 3 s.2.length (edges s.2))], 1⟩)
        (fun s => row.length - s.1) (0, fs) ⟨by simp, by simp [rEdges]⟩ rfl ?_
      rintro ⟨k, hs⟩ ⟨hk, hhs⟩
      simp only at hk hhs ⊢
      have hkl0 := rEdges_len0 i row k
      have hsl : hs.length ≤ 71000 := by rw [hhs, List.length_append]; omega
      by_cases hkl : k < row.length
      · obtain ⟨v, hv⟩ : ∃ v, row.getD k 0 = v := ⟨_, rfl⟩
        have hvn : v < nd.length := by rw [← hv]; exact hrlt _ (getD_mem row _ 0 hkl)
        have hnx : hs ++ nEdge i v = fs ++ rEdges i row (k + 1) := by rw [hhs, ← hv, List.append_assoc]; rfl
        by_cases hvi : v = i
        · subst hvi
          have hsn : hs = fs ++ rEdges v row (k + 1) := by rw [← hnx]; unfold nEdge; rw [if_pos rfl, List.append_nil]
          repeat (first | refine F_mv zT0 rfl ?_ | refine F_iaS (by rfl) (by rfl) (by omega) zT1 ?_ | refine F_ldP (by rfl) (by (try simp only [go_sem]); first | omega | decide) (by (try simp (disch := omega) only [go_sem, hv]); try rfl) ?_ | refine F_nil zT1 ?_ | refine F_lss (by rfl) (by rfl) zT6 ?_ | refine F_neq (by rfl) (by rfl) (by first | exact neF (by omega) | exact neT (by omega) | rfl) ?_ | refine F_add (by rfl) (by rfl) (by (try simp (disch := omega) only [go_sem, Int.reduceAdd, Int.reduceSub, Int.reduceMul, hv]); try rfl) ?_ | refine hx_true (by rfl) ?_ | refine hx_false (by rfl) ?_ | refine hx_seq ?_ | refine hx_region ?_ | refine hx_block ?_ | refine hx_b ?_ | refine hx_skip ?_)
          exact hx_lG [6, 7, 10, 50, 51, 52, 57, 58, 59] (k + 1, hs) ⟨hkl, hsn⟩ (by simp only; omega) rfl
        · have hsn : hs ++ [⟨i, v, 1099511627776⟩] = fs ++ rEdges i row (k + 1) := by rw [← hnx]; unfold nEdge; rw [if_neg hvi]
          repeat (first | refine F_mv zT0 rfl ?_ | refine F_iaS (by rfl) (by rfl) (by omega) zT1 ?_ | refine F_ldP (by rfl) (by (try simp only [go_sem]); first | omega | decide) (by (try simp (disch := omega) only [go_sem, hv]); try rfl) ?_ | refine F_nil zT1 ?_ | refine F_lss (by rfl) (by rfl) zT6 ?_ | refine F_neq (by rfl) (by rfl) (by first | exact neF (by omega) | exact neT (by omega) | rfl) ?_ | refine F_add (by rfl) (by rfl) (by (try simp (disch := omega) only [go_sem, Int.reduceAdd, Int.reduceSub, Int.reduceMul, hv]); try rfl) ?_ | refine hx_true (by rfl) ?_ | refine hx_seq ?_ | refine hx_region ?_ | refine hx_block ?_ | refine hx_b ?_ | refine hx_skip ?_ | refine F_bsl zT1 (by (try simp only [List.map_cons, List.map_nil]); repeat (first | (apply eL1; · exact zT0) | rfl)) (by (try simp only [go_sem]); try rfl) zT10 (by rfl) (by rfl) ?_ | refine F_appR zT1 (by rfl) zT0 zT9 (by (try simp (disch := omega) only [go_sem, reduceIte, Nat.reduceEqDiff, Nat.reduceAdd, Nat.reduceMul, hv]); try omega) (by first | exact eO rfl | exact eW rfl) (by (try simp (disch := omega) only [go_sem, reduceIte, Nat.reduceEqDiff, Nat.reduceAdd, Nat.reduceMul, hv]); try rfl) zT1 (by omega) (by unfold maxLen; omega) (by (try simp only [go_sem]); first | omega | decide) (by (try simp (disch := omega) only [go_sem, reduceIte, Nat.reduceEqDiff, Nat.reduceAdd, Nat.reduceMul, hv]); try rfl) (by (try simp only [go_sem]); try rfl) ?_ | refine F_bld (by (try simp only [List.map_cons, List.map_nil]); repeat (first | (apply eP1; · exact zT0) | rfl)) (by simp only [fillAt, setFrom, cellsOf, List.set_cons_zero, List.set_cons_succ]; try rfl) (by simp [notDead]) ?_)
          exact hx_lG [6, 7, 10, 50, 51, 52, 57, 58, 59] (k + 1, hs ++ [⟨i, v, 1099511627776⟩]) ⟨hkl, hsn⟩ (by simp only; omega) (by simp only [List.length_append, List.length_cons, List.length_nil, Nat.zero_add]; rfl)
      · obtain rfl : k = row.length := by omega
        have hsn : hs = es ++ nEdges nd (i + 1) := by rw [hhs, hfs, List.append_assoc, ← hrow]; rfl
        repeat (first | refine F_mv zT0 rfl ?_ | refine F_nil zT1 ?_ | refine F_lss (by rfl) (by rfl) zT6 ?_ | refine F_add (by rfl) (by rfl) zT11 ?_ | refine hx_exitS (by rfl) ?_ | refine hx_false (by rfl) ?_ | refine hx_seq ?_ | refine hx_region ?_ | refine hx_b ?_)
        exact hx_lG [6, 7, 50, 51, 52] (i + 1, hs) ⟨hin, hsn⟩ (by simp only; omega) rfl
    · obtain rfl : i = nd.length := by omega
      repeat (first | refine F_mv zT0 rfl ?_ | refine F_nil zT1 ?_ | refine F_lss (by rfl) (by rfl) zT6 ?_ | refine F_add (by rfl) (by rfl) zT11 ?_ | refine hx_exitS (by rfl) ?_ | refine hx_false (by rfl) ?_ | refine hx_seq ?_ | refine hx_region ?_)
      refine hx_retF (by (try simp only [List.map_cons, List.map_nil]); repeat (first | (apply eL1; · exact zT0) | rfl)) zT5 zT7 ?_
      rw [hnet, ← hfs]
      rfl

theorem ht_cnet_bad (w : List Int) (needs : List (List Int)) (h1 : needs.length ≤ 9223372036854775807) (h2 : w.length ≤ 9223372036854775807) (h3 : ∀ i, (needs.getD i []).length ≤ 9223372036854775807) (hv : ¬ VW w needs) : HT Try.prog 22 [I w, Gs needs] (fun r => r = .tup [.int .i64 0, .osl 3 0 []]) := by
  refine HT.of rfl fc22 (Nat.le_of_ble_eq_true rfl) ?_
  unfold c22
  simp only [Gs, I, argSlots, Nat.reduceAdd]
  repeat (first | refine F_mv zT0 rfl ?_ | refine F_nil zT1 ?_ | refine hx_seq ?_ | refine hx_region ?_ | refine F_mvnil rfl (by rfl) zT1 ?_)
  refine F_call (by (try simp only [List.map_cons, List.map_nil]); repeat (first | (apply eL1; · exact zT0) | rfl)) (by simp (disch := omega) only [thawL, Gs, HV.thaw, allIds, aget, nget, if_true, if_false, reduceIte, Nat.reduceEqDiff, stripL, HV.strip, win_intsE, win_boolsE, win_edgesE, Nat.mul_one, List.cons_append, List.nil_append, List.append_nil, I, Bl, T3, Es, List.getD_cons_zero, List.getD_cons_succ, HL.ints_strip, HL.bools_strip, trip_strip, edges_strip]; try rfl) (ht_cvalid w needs h1 h2 h3) ?_
  rintro _ ⟨b, rfl, hb⟩
  cases b with
  | true => exact absurd (hb.1 rfl) hv
  | false =>
    refine ⟨zT3, _, _, _, _, _, zT4, (by decide), (by simp only [upF, upS]; try rfl), ?_⟩
    repeat (first | refine F_mv zT0 rfl ?_ | refine F_nil zT1 ?_ | refine hx_true (by rfl) ?_ | refine hx_seq ?_ | refine hx_region ?_ | refine F_mvnil rfl (by rfl) zT1 ?_ | refine F_notF (by rfl) ?_)
    refine hx_retF (by (try simp only [List.map_cons, List.map_nil]); repeat (first | (apply eL1; · exact zT0) | rfl)) zT5 zT7 ?_
    rfl

end Go.Proofs.Ytkhbiknjkffpjaa
