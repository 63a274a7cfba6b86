/-
  OWN WORK. The law ClosureBounds in the value language.
-/
import Derived.Test.YtkhbiknjkffpjaaCodesClosureBounds
import Derived.Test.YtkhbiknjkffpjaaClLiv
import Derived.Test.YtkhbiknjkffpjaaClSm
import Derived.Test.YtkhbiknjkffpjaaGrGph
set_option linter.unusedSimpArgs false
set_option linter.unusedVariables false
namespace Go.Proofs.Ytkhbiknjkffpjaa
open Go.RowKit Go.SL Go.HL

theorem BoundR.eq {w : List Int} {nd : List (List Nat)} {fl : List Int} {x y x' y' : Int} (h : BoundR w nd fl x y) (h' : BoundR w nd fl x' y') : x = x' ∧ y = y' := by
  rcases h with ⟨a, rfl, rfl⟩ | ⟨a, v, e, hR, h⟩ <;> rcases h' with ⟨a', rfl, rfl⟩ | ⟨a', v', e', hR', h'⟩
  · exact ⟨rfl, rfl⟩
  · exact absurd a' a
  · exact absurd a a'
  · obtain ⟨rfl, rfl⟩ := hR.eq hR'
    rcases h with ⟨h1, h2, h3⟩ | ⟨h1, h2, h3⟩ <;> rcases h' with ⟨h1', h2', h3'⟩ | ⟨h1', h2', h3'⟩
    · exact ⟨by rw [h2, h2'], by rw [h3, h3']⟩
    · exact absurd h1' h1
    · exact absurd h1 h1'
    · exact ⟨by rw [h2, h2'], by rw [h3, h3']⟩
theorem bound_any (w : List Int) (needs : List (List Int)) (fl : List Int) (h1 : needs.length ≤ 9223372036854775807) (h2 : w.length ≤ 9223372036854775807) (h3 : ∀ i, (needs.getD i []).length ≤ 9223372036854775807) :
    ∃ P : Int → Int → Prop, (∀ x y x' y', P x y → P x' y' → x = x' ∧ y = y') ∧ HT Try.prog 28 [I w, Gs needs, I fl] (fun r => ∃ x y, r = .tup [.int .i64 x, .int .i64 y] ∧ P x y) ∧ HT Try.prog 27 [I w, Gs needs, I fl] (fun r => ∃ x y, r = .tup [.int .i64 x, .int .i64 y] ∧ P x y) := by
  by_cases hv : VW w needs
  · obtain ⟨hl, hwr, hg⟩ := VW.vg.1 hv
    obtain ⟨nd, rfl, g⟩ := hg.gr
    have hnl : (nd.map nl).length = nd.length := by simp
    rw [hnl] at hl hwr
    have hw : WOK w := fun i => by
      by_cases hi : i < nd.length
      · exact hwr i hi
      · rw [List.getD_eq_getElem?_getD, List.getElem?_eq_none (by omega)]; simp
    exact ⟨BoundR w nd fl, fun _ _ _ _ => BoundR.eq, ht_cbound w nd _ fl g hw hl, ht_rbound w nd _ fl g hw hl⟩
  · exact ⟨fun x y => x = 0 ∧ y = 1, fun _ _ _ _ h h' => ⟨by rw [h.1, h'.1], by rw [h.2, h'.2]⟩, (ht_cbound_bad w needs fl h1 h2 h3 hv).mono fun r h => ⟨0, 1, h, rfl, rfl⟩, (ht_rbound_bad w needs fl h1 h2 h3 hv).mono fun r h => ⟨0, 1, h, rfl, rfl⟩⟩
theorem ht_takeN (l : List Int) (m : Nat) (hl : l.length ≤ 9223372036854775807) (hm : m ≤ 100000) : HT Try.prog 29 [I l, .int .i64 m] (fun r => r = .osl 1 (l.take m).length (HL.ints (l.take m))) := by
  refine HT.of rfl fc29 (Nat.le_of_ble_eq_true rfl) ?_
  unfold c29
  simp only [I, argSlots, Nat.reduceAdd]
  have hwin : ∀ k : Nat, win (HL.ints l) 0 k = HL.ints (l.take k) := fun k => by
    unfold win HL.ints
    rw [List.drop_zero, List.map_take]
    split
    · rename_i e; rw [List.take_of_length_le (by omega)]
    · rfl
  by_cases h : m < l.length
  · have hmm : (if (m : Int) < (l.length : Int) then (m : Int) else (l.length : Int)) = (m : Int) := if_pos (by omega)
    have htl : (l.take m).length = m := by simp; omega
    rw [htl]
    have htb : (HL.ints (l.take m)).length = m := by rw [HL.ints_len, htl]
    repeat (first | refine F_mv zT0 rfl ?_ | refine F_nil zT1 ?_ | refine F_lenS (by rfl) ?_ | refine hx_seq ?_ | refine hx_region ?_ | refine F_mvnil rfl (by rfl) zT1 ?_ | refine F_slcS (by rfl) (by rfl) (by rfl) (by omega) (by (try simp only [go_sem]); try rfl) zT1 (by (try simp (disch := omega) only [go_sem, reduceIte, Nat.reduceEqDiff, Nat.reduceAdd, Nat.reduceMul, hmm, hwin, htl, htb]); try rfl) ?_ | refine F_mm (by rfl) (by rfl) (by (try simp only [go_sem, reduceIte, hmm, hwin, htl, htb]); try rfl) ?_ | refine F_appR zT1 (by rfl) zT0 zT9 (by (try simp (disch := omega) only [go_sem, reduceIte, Nat.reduceEqDiff, Nat.reduceAdd, Nat.reduceMul, hmm, hwin, htl, htb]); try omega) (by first | exact eO rfl | exact eW rfl) (by (try simp (disch := omega) only [go_sem, reduceIte, Nat.reduceEqDiff, Nat.reduceAdd, Nat.reduceMul, hmm, hwin, htl, htb]); try rfl) zT1 (by omega) (by unfold maxLen; omega) (by (try simp only [go_sem]); first | omega | decide) (by (try simp (disch := omega) only [go_sem, reduceIte, Nat.reduceEqDiff, Nat.reduceAdd, Nat.reduceMul, hmm, hwin, htl, htb]); try rfl) (by (try simp only [go_sem]); try rfl) ?_)
    refine hx_retF (by (try simp only [List.map_cons, List.map_nil]); repeat (first | (apply eL1; · exact zT0) | rfl)) zT5 zT7 ?_
    rfl
  · have hmm : (if (m : Int) < (l.length : Int) then (m : Int) else (l.length : Int)) = (l.length : Int) := if_neg (by omega)
    rw [List.take_of_length_le (by omega)]
    repeat (first | refine F_mv zT0 rfl ?_ | refine F_nil zT1 ?_ | refine F_lenS (by rfl) ?_ | refine hx_seq ?_ | refine hx_region ?_ | refine F_mvnil rfl (by rfl) zT1 ?_ | refine F_slcS (by rfl) (by rfl) (by rfl) (by omega) (by (try simp only [go_sem]); try rfl) zT1 (by (try simp (disch := omega) only [go_sem, reduceIte, Nat.reduceEqDiff, Nat.reduceAdd, Nat.reduceMul, hmm]); try rfl) ?_ | refine F_mm (by rfl) (by rfl) (by (try simp only [go_sem, reduceIte, hmm]); try rfl) ?_ | refine F_appR zT1 (by rfl) zT0 zT9 (by (try simp (disch := omega) only [go_sem, reduceIte, Nat.reduceEqDiff, Nat.reduceAdd, Nat.reduceMul, hmm]); try omega) (by first | exact eO rfl | exact eW rfl) (by (try simp (disch := omega) only [go_sem, reduceIte, Nat.reduceEqDiff, Nat.reduceAdd, Nat.reduceMul, hmm]); try rfl) zT1 (by omega) (by unfold maxLen; omega) (by (try simp only [go_sem]); first | omega | decide) (by (try simp (disch := omega) only [go_sem, reduceIte, Nat.reduceEqDiff, Nat.reduceAdd, Nat.reduceMul, hmm]); try rfl) (by (try simp only [go_sem]); try rfl) ?_)
    refine hx_retF (by (try simp only [List.map_cons, List.map_nil]); repeat (first | (apply eL1; · exact zT0) | rfl)) zT5 zT7 ?_
    rfl

theorem win_takeB (g : List (List Int)) : win (rowsI g) 0 (Int.toNat 30) = rowsI (g.take 30) := by
  unfold win rowsI
  simp
  intro h
  rw [List.take_of_length_le (by simp; omega)]

set_option maxHeartbeats 16000000 in
theorem bnds_rest (w : List Int) (needs : List (List Int)) (raw l m : List Int) (at_ by_ : Int) (hw : w.length ≤ 9223372036854775807) (hn : needs.length ≤ 256) (h3 : ∀ i, (needs.getD i []).length ≤ 9223372036854775807)
    (hr : raw.length ≤ 9223372036854775807) (hl : l.length ≤ 9223372036854775807) (hm : m.length ≤ 9223372036854775807) (hmr : ∀ k, k < m.length → -9223372036854775808 ≤ m.getD k 0 ∧ m.getD k 0 ≤ 9223372036854775807)
    (ha : -9223372036854775808 ≤ at_ ∧ at_ ≤ 9223372036854775807) (hb : -9223372036854775808 ≤ by_ ∧ by_ ≤ 9223372036854775807) :
    hx Try.prog [HI.c c6_20] (finish [14] fun r => r = .bool true) ⟨[(0, .sl w.length (HL.ints w)), (1, .sl needs.length (rowsI needs)), (2, .sl raw.length (HL.ints raw)), (3, .sl l.length (HL.ints l)), (4, .sl m.length (HL.ints m)), (5, .int .i64 at_), (6, .int .i64 by_)], [], 0⟩ := by
  obtain ⟨P, hP, hc1, hr1⟩ := bound_any w needs raw (by omega) hw h3
  repeat (first | refine F_mv zT0 rfl ?_ | refine hx_seq ?_ | refine hx_region ?_)
  refine F_call (by (try simp only [List.map_cons, List.map_nil]); repeat (first | (apply eL1; · exact zT0) | rfl)) (by simp (disch := omega) only [thawL, Gs, HV.thaw, allIds, aget, nget, if_true, if_false, reduceIte, Nat.reduceEqDiff, stripL, HV.strip, win_intsE, win_boolsE, win_edgesE, Nat.mul_one, List.cons_append, List.nil_append, List.append_nil, I, Bl, T3, Es, List.getD_cons_zero, List.getD_cons_succ, HL.ints_strip, HL.bools_strip, trip_strip, edges_strip]; try rfl) (hc1) ?_
  rintro _ ⟨x1, y1, rfl, hR1⟩
  refine ⟨zT3, _, _, _, _, _, zT4, (by decide), (by simp only [upF, upS]; try rfl), ?_⟩
  repeat (first | refine F_mv zT0 rfl ?_ | refine F_nil zT1 ?_ | refine F_ext (by rfl) (by (try simp only [go_sem]); first | omega | decide) zT0 ?_ | refine hx_seq ?_ | refine hx_region ?_)
  refine F_call (by (try simp only [List.map_cons, List.map_nil]); repeat (first | (apply eL1; · exact zT0) | rfl)) (by simp (disch := omega) only [thawL, Gs, HV.thaw, allIds, aget, nget, if_true, if_false, reduceIte, Nat.reduceEqDiff, stripL, HV.strip, win_intsE, win_boolsE, win_edgesE, Nat.mul_one, List.cons_append, List.nil_append, List.append_nil, I, Bl, T3, Es, List.getD_cons_zero, List.getD_cons_succ, HL.ints_strip, HL.bools_strip, trip_strip, edges_strip]; try rfl) (hr1) ?_
  rintro _ ⟨x2, y2, rfl, hR2⟩
  obtain ⟨rfl, rfl⟩ := hP _ _ _ _ hR1 hR2
  refine ⟨zT3, _, _, _, _, _, zT4, (by decide), (by simp only [upF, upS]; try rfl), ?_⟩
  repeat (first | refine F_mv zT0 rfl ?_ | refine F_nil zT1 ?_ | refine F_ext (by rfl) (by (try simp only [go_sem]); first | omega | decide) zT0 ?_ | refine hx_seq ?_ | refine hx_region ?_)
  refine F_call (by (try simp only [List.map_cons, List.map_nil]); repeat (first | (apply eL1; · exact zT0) | rfl)) zT2 (ht_ggraph l hl) ?_
  rintro _ ⟨nd, bad, rfl, hn9, g, hd3⟩
  refine ⟨zT3, _, _, _, _, _, zT4, (by decide), (by simp only [upF, upS]; try rfl), ?_⟩
  have hsz := g.size
  have hnl : (nd.map nl).length = nd.length := by simp
  have hE : stripL (win (rowsO nd) 0 (nd.length * 1)) = rowsI (nd.map nl) := by rw [rowsO_win _ (by omega), rowsO_strip]
  repeat (first | refine F_mv zT0 rfl ?_ | refine F_nil zT1 ?_ | refine F_ext (by rfl) (by (try simp only [go_sem]); first | omega | decide) zT0 ?_)
  refine hx_dropN [2, 4, 5, 6, 15, 16, 17, 18, 19] (⟨[(2, .sl raw.length (HL.ints raw)), (4, .sl m.length (HL.ints m)), (5, .int .i64 at_), (6, .int .i64 by_), (15, .int .i64 x1), (16, .int .i64 y1), (17, .int .i64 x1), (18, .int .i64 y1), (19, .ref 0 [] 1 0 nd.length)], [(0, .osl 1 nd.length (rowsO nd))], 1⟩ : St) rfl ?_
  refine hx_freezeN 0 [2, 4, 5, 6, 15, 16, 17, 18, 19] _ (congrArg (fun c : List HV => (⟨[(2, .sl raw.length (HL.ints raw)), (4, .sl m.length (HL.ints m)), (5, .int .i64 at_), (6, .int .i64 by_), (15, .int .i64 x1), (16, .int .i64 y1), (17, .int .i64 x1), (18, .int .i64 y1), (19, .sl nd.length c)], [], 0⟩ : St)) hE) ?_
  repeat (first | refine F_mv zT0 rfl ?_ | refine F_lenS (by rfl) ?_ | refine hx_seq ?_ | refine hx_region ?_)
  refine F_call (by (try simp only [List.map_cons, List.map_nil]); repeat (first | (apply eL1; · exact zT0) | rfl)) zT2 (ht_weights m nd.length (by omega) hm hmr) ?_
  rintro _ ⟨v, rfl, hvl, hvk⟩
  refine ⟨zT3, _, _, _, _, _, zT4, (by decide), (by simp only [upF, upS]; try rfl), ?_⟩
  have hN := netE_len g v
  have hN2 : nd.length * nd.length ≤ 256 * 256 := Nat.mul_le_mul hsz hsz
  obtain ⟨E, hEE⟩ : ∃ E, netE v nd = E := ⟨_, rfl⟩
  have hrn := ht_rnet v nd bad g hvk hvl
  simp only [Gs, I] at hrn
  rw [hnl, hvl, hEE] at hrn
  rw [hEE] at hN
  repeat (first | refine F_mv zT0 rfl ?_ | refine F_nil zT1 ?_ | refine hx_seq ?_ | refine hx_region ?_)
  refine F_call (by (try simp only [List.map_cons, List.map_nil]); repeat (first | (apply eL1; · exact zT0) | rfl)) zT2 (hrn) ?_
  rintro _ rfl
  refine ⟨zT3, _, _, _, _, _, zT4, (by decide), (by simp only [upF, upS]; try rfl), ?_⟩
  repeat (first | refine F_mv zT0 rfl ?_ | refine F_nil zT1 ?_ | refine F_ext (by rfl) (by (try simp only [go_sem]); first | omega | decide) zT0 ?_ | refine F_lenR (by rfl) ?_ | refine hx_seq ?_ | refine hx_region ?_)
  refine F_call (by (try simp only [List.map_cons, List.map_nil]); repeat (first | (apply eL1; · exact zT0) | rfl)) zT2 (ht_takeN raw E.length hr (by omega)) ?_
  rintro _ rfl
  refine ⟨zT3, _, _, _, _, _, zT4, (by decide), (by simp only [upF, upS]; try rfl), ?_⟩
  obtain ⟨T0, hT0⟩ : ∃ T0, raw.take E.length = T0 := ⟨_, rfl⟩
  have hT0l : T0.length ≤ E.length := by rw [← hT0]; simp; omega
  rw [hT0]
  repeat (first | refine F_mv zT0 rfl ?_ | refine F_nil zT1 ?_ | refine hx_seq ?_ | refine hx_block ?_)
  refine hx_loopG [5, 6, 15, 16, 17, 18, 19, 21, 23, 24] (fun T : List Int => T.length ≤ E.length)
    (fun T => ⟨[(5, .int .i64 at_), (6, .int .i64 by_), (15, .int .i64 x1), (16, .int .i64 y1), (17, .int .i64 x1), (18, .int .i64 y1), (19, .sl nd.length (rowsI (nd.map nl))), (21, .ref 0 [] 1 0 nd.length), (23, .ref 1 [] 3 0 E.length), (24, .ref 2 [] 1 0 T.length)], [(0, .osl 1 nd.length (HL.ints v)), (1, .osl 3 E.length (edges E)), (2, .osl 1 T.length (HL.ints T))], 3⟩)
    (fun T => E.length - T.length) T0 hT0l rfl ?_
  intro T hT
  by_cases hTn : T.length < E.length
  · repeat (first | refine F_mv zT0 rfl ?_ | refine F_nil zT1 ?_ | refine F_lss (by rfl) (by rfl) zT6 ?_ | refine F_lenR (by rfl) ?_ | refine hx_true (by rfl) ?_ | refine hx_seq ?_ | refine hx_region ?_ | refine hx_block ?_ | refine hx_b ?_ | refine hx_skip ?_ | refine F_bsl zT1 (by (try simp only [List.map_cons, List.map_nil]); repeat (first | (apply eL1; · exact zT0) | rfl)) (by (try simp only [go_sem]); try rfl) zT10 (by rfl) (by rfl) ?_ | refine F_appR zT1 (by rfl) zT0 zT9 (by (try simp (disch := omega) only [go_sem, reduceIte, Nat.reduceEqDiff, Nat.reduceAdd, Nat.reduceMul]); try omega) (by first | exact eO rfl | exact eW rfl) (by (try simp only [go_sem]); try rfl) zT1 (by omega) (by unfold maxLen; omega) (by (try simp only [go_sem]); first | omega | decide) (by (try simp (disch := omega) only [go_sem, reduceIte, Nat.reduceEqDiff, Nat.reduceAdd, Nat.reduceMul]); try rfl) (by (try simp only [go_sem]); try rfl) ?_)
    exact hx_lG [5, 6, 15, 16, 17, 18, 19, 21, 23, 24] (T ++ [0]) (by simp; omega) (by simp; omega) (by simp only [List.length_append, List.length_cons, List.length_nil, Nat.zero_add]; rfl)
  · have hcb := ht_cbound v nd bad T g hvk hvl
    have hrb := ht_rbound v nd bad T g hvk hvl
    simp only [Gs, I] at hcb hrb
    rw [hnl, hvl] at hcb hrb
    repeat (first | refine F_mv zT0 rfl ?_ | refine F_nil zT1 ?_ | refine F_lss (by rfl) (by rfl) zT6 ?_ | refine F_lenR (by rfl) ?_ | refine hx_exitS (by rfl) ?_ | refine hx_false (by rfl) ?_ | refine hx_seq ?_ | refine hx_region ?_)
    refine F_call (by (try simp only [List.map_cons, List.map_nil]); repeat (first | (apply eL1; · exact zT0) | rfl)) zT2 (hcb) ?_
    rintro _ ⟨x2, y2, rfl, hR3⟩
    refine ⟨zT3, _, _, _, _, _, zT4, (by decide), (by simp only [upF, upS]; try rfl), ?_⟩
    repeat (first | refine F_mv zT0 rfl ?_ | refine F_nil zT1 ?_ | refine F_ext (by rfl) (by (try simp only [go_sem]); first | omega | decide) zT0 ?_ | refine hx_seq ?_ | refine hx_region ?_)
    refine F_call (by (try simp only [List.map_cons, List.map_nil]); repeat (first | (apply eL1; · exact zT0) | rfl)) zT2 (hrb) ?_
    rintro _ ⟨x3, y3, rfl, hR4⟩
    obtain ⟨rfl, rfl⟩ := hR3.eq hR4
    refine ⟨zT3, _, _, _, _, _, zT4, (by decide), (by simp only [upF, upS]; try rfl), ?_⟩
    have hmx := ht_cmax v nd bad g hvk hvl
    simp only [Gs, I] at hmx
    rw [hnl, hvl] at hmx
    repeat (first | refine F_mv zT0 rfl ?_ | refine F_nil zT1 ?_ | refine F_ext (by rfl) (by (try simp only [go_sem]); first | omega | decide) zT0 ?_ | refine hx_seq ?_ | refine hx_region ?_)
    refine F_call (by (try simp only [List.map_cons, List.map_nil]); repeat (first | (apply eL1; · exact zT0) | rfl)) zT2 (hmx) ?_
    rintro _ ⟨fl, set, value, rfl, hMS, hF, hval⟩
    have hfl := hF.flow.len
    rw [hEE] at hfl ⊢
    refine ⟨zT3, _, _, _, _, _, zT4, (by decide), (by simp only [upF, upS]; try rfl), ?_⟩
    repeat (first | refine F_mv zT0 rfl ?_ | refine F_nil zT1 ?_ | refine F_ext (by rfl) (by (try simp only [go_sem]); first | omega | decide) zT0 ?_)
    refine hx_dropN [5, 6, 15, 16, 17, 18, 19, 21, 23, 25, 26, 27, 28, 31, 32] (⟨[(5, .int .i64 at_), (6, .int .i64 by_), (15, .int .i64 x1), (16, .int .i64 y1), (17, .int .i64 x1), (18, .int .i64 y1), (19, .sl nd.length (rowsI (nd.map nl))), (21, .ref 0 [] 1 0 nd.length), (23, .ref 1 [] 3 0 E.length), (25, .int .i64 x2), (26, .int .i64 y2), (27, .int .i64 x2), (28, .int .i64 y2), (31, .ref 2 [] 1 0 E.length), (32, .int .i64 0)], [(0, .osl 1 nd.length (HL.ints v)), (1, .osl 3 E.length (edges E)), (2, .osl 1 E.length (HL.ints fl))], 3⟩ : St) rfl ?_
    have htk := ht_takeN fl E.length (by omega) (by omega)
    rw [List.take_of_length_le (by omega)] at htk
    simp only [I] at htk
    rw [hfl] at htk
    repeat (first | refine F_mv zT0 rfl ?_ | refine F_yes (by rfl) (by rfl) ?_ | refine F_nil zT1 ?_ | refine F_neq (by rfl) (by rfl) (by first | exact neF (by omega) | exact neT (by omega) | rfl) ?_ | refine F_pickF (by rfl) zT0 ?_ | refine F_lenR (by rfl) ?_ | refine hx_false (by rfl) ?_ | refine hx_seq ?_ | refine hx_region ?_ | refine hx_skip ?_)
    refine F_call (by (try simp only [List.map_cons, List.map_nil]); repeat (first | (apply eL1; · exact zT0) | rfl)) zT2 (htk) ?_
    rintro _ rfl
    refine ⟨zT3, _, _, _, _, _, zT4, (by decide), (by simp only [upF, upS]; try rfl), ?_⟩
    repeat (first | refine F_mv zT0 rfl ?_ | refine F_nil zT1 ?_)
    refine hx_dropN [5, 6, 15, 16, 17, 18, 19, 21, 25, 26, 27, 28, 31] (⟨[(5, .int .i64 at_), (6, .int .i64 by_), (15, .int .i64 x1), (16, .int .i64 y1), (17, .int .i64 x1), (18, .int .i64 y1), (19, .sl nd.length (rowsI (nd.map nl))), (21, .ref 0 [] 1 0 nd.length), (25, .int .i64 x2), (26, .int .i64 y2), (27, .int .i64 x2), (28, .int .i64 y2), (31, .ref 1 [] 1 0 E.length)], [(0, .osl 1 nd.length (HL.ints v)), (1, .osl 1 E.length (HL.ints fl))], 2⟩ : St) rfl ?_
    have key : ∀ fl : List Int, fl.length = E.length → hx Try.prog [HI.c c6_8] (finish [14] fun r => r = .bool true) ⟨[(15, .int .i64 x1), (16, .int .i64 y1), (17, .int .i64 x1), (18, .int .i64 y1), (19, .sl nd.length (rowsI (nd.map nl))), (21, .ref 0 [] 1 0 nd.length), (25, .int .i64 x2), (26, .int .i64 y2), (27, .int .i64 x2), (28, .int .i64 y2), (31, .ref 1 [] 1 0 E.length)], [(0, .osl 1 nd.length (HL.ints v)), (1, .osl 1 E.length (HL.ints fl))], 2⟩ := by
      intro fl hfl
      have hcb := ht_cbound v nd bad fl g hvk hvl
      have hrb := ht_rbound v nd bad fl g hvk hvl
      simp only [Gs, I] at hcb hrb
      rw [hnl, hvl, hfl] at hcb hrb
      repeat (first | refine F_mv zT0 rfl ?_ | refine hx_seq ?_ | refine hx_region ?_)
      refine F_call (by (try simp only [List.map_cons, List.map_nil]); repeat (first | (apply eL1; · exact zT0) | rfl)) zT2 (hcb) ?_
      rintro _ ⟨x4, y4, rfl, hR5⟩
      refine ⟨zT3, _, _, _, _, _, zT4, (by decide), (by simp only [upF, upS]; try rfl), ?_⟩
      repeat (first | refine F_mv zT0 rfl ?_ | refine F_nil zT1 ?_ | refine F_ext (by rfl) (by (try simp only [go_sem]); first | omega | decide) zT0 ?_ | refine hx_seq ?_ | refine hx_region ?_)
      refine F_call (by (try simp only [List.map_cons, List.map_nil]); repeat (first | (apply eL1; · exact zT0) | rfl)) zT2 (hrb) ?_
      rintro _ ⟨x5, y5, rfl, hR6⟩
      obtain ⟨rfl, rfl⟩ := hR5.eq hR6
      refine ⟨zT3, _, _, _, _, _, zT4, (by decide), (by simp only [upF, upS]; try rfl), ?_⟩
      repeat (first | refine F_mv zT0 rfl ?_ | refine F_yes (by rfl) (by rfl) ?_ | refine F_nil zT1 ?_ | refine F_eql (by rfl) (by rfl) (by first | exact eqT (by omega) | exact eqF (by omega) | rfl) ?_ | refine F_pickT (by rfl) zT0 ?_ | refine F_ext (by rfl) (by (try simp only [go_sem]); first | omega | decide) zT0 ?_ | refine hx_seq ?_ | refine hx_region ?_)
      refine F_call (by (try simp only [List.map_cons, List.map_nil]); repeat (first | (apply eL1; · exact zT0) | rfl)) zT2 (ht_lives28) ?_
      rintro _ rfl
      refine ⟨zT3, _, _, _, _, _, zT4, (by decide), (by simp only [upF, upS]; try rfl), ?_⟩
      repeat (first | refine F_mv zT0 rfl ?_ | refine F_nil zT1 ?_ | refine F_pickT (by rfl) zT0 ?_)
      refine hx_retF (by (try simp only [List.map_cons, List.map_nil]); repeat (first | (apply eL1; · exact zT0) | rfl)) zT5 zT7 ?_
      rfl
    refine hx_seq ?_
    refine hx_seq ?_
    refine hx_region ?_
    by_cases h0 : 0 < E.length
    · repeat (first | refine F_mv zT0 rfl ?_ | refine F_nil zT1 ?_ | refine F_lenR (by rfl) ?_ | refine F_gtr (by rfl) (by rfl) zT6 ?_)
      refine hx_true (by rfl) ?_
      repeat (first | refine F_mv zT0 rfl ?_ | refine F_lenR (by rfl) ?_ | refine hx_region ?_)
      refine F_call (by (try simp only [List.map_cons, List.map_nil]); repeat (first | (apply eL1; · exact zT0) | rfl)) zT2 (ht_around at_ E.length (by omega) (by omega) ha.1 ha.2) ?_
      rintro _ ⟨j, rfl, hj⟩
      refine ⟨zT3, _, _, _, _, _, zT4, (by decide), (by simp only [upF, upS]; try rfl), ?_⟩
      repeat (first | refine F_mv zT0 rfl ?_ | refine F_iaR (by rfl) (by rfl) (by omega) zT1 ?_ | refine F_nil zT1 ?_ | refine F_st (by rfl) zT0 (by (try simp only [go_sem]); try rfl) zT10 (by rfl) (by decide) (by first | exact eO rfl | exact eW rfl) (by (try simp only [go_sem]); try rfl) (by (try simp only [go_sem]); first | omega | decide) (by (try simp (disch := omega) only [go_sem]); try rfl) (by (try simp only [go_sem]); try rfl) ?_)
      refine hx_dropN [15, 16, 17, 18, 19, 21, 25, 26, 27, 28, 31] (⟨[(15, .int .i64 x1), (16, .int .i64 y1), (17, .int .i64 x1), (18, .int .i64 y1), (19, .sl nd.length (rowsI (nd.map nl))), (21, .ref 0 [] 1 0 nd.length), (25, .int .i64 x2), (26, .int .i64 y2), (27, .int .i64 x2), (28, .int .i64 y2), (31, .ref 1 [] 1 0 E.length)], [(0, .osl 1 nd.length (HL.ints v)), (1, .osl 1 E.length (HL.ints (fl.set j by_)))], 2⟩ : St) rfl ?_
      exact key _ (by simp [hfl])
    · repeat (first | refine F_mv zT0 rfl ?_ | refine F_nil zT1 ?_ | refine F_lenR (by rfl) ?_ | refine F_gtr (by rfl) (by rfl) zT6 ?_)
      refine hx_false (by rfl) ?_
      repeat (first | refine hx_skip ?_)
      refine hx_dropN [15, 16, 17, 18, 19, 21, 25, 26, 27, 28, 31] (⟨[(15, .int .i64 x1), (16, .int .i64 y1), (17, .int .i64 x1), (18, .int .i64 y1), (19, .sl nd.length (rowsI (nd.map nl))), (21, .ref 0 [] 1 0 nd.length), (25, .int .i64 x2), (26, .int .i64 y2), (27, .int .i64 x2), (28, .int .i64 y2), (31, .ref 1 [] 1 0 E.length)], [(0, .osl 1 nd.length (HL.ints v)), (1, .osl 1 E.length (HL.ints fl))], 2⟩ : St) rfl ?_
      exact key _ hfl

set_option maxHeartbeats 16000000 in
theorem ht_lawBnds (w : List Int) (needs : List (List Int)) (raw l m : List Int) (at_ by_ : Int) (hw : w.length ≤ 9223372036854775807) (hn : needs.length ≤ 9223372036854775807) (h3 : ∀ i, (needs.getD i []).length ≤ 9223372036854775807)
    (hr : raw.length ≤ 9223372036854775807) (hl : l.length ≤ 9223372036854775807) (hm : m.length ≤ 9223372036854775807) (hmr : ∀ k, k < m.length → -9223372036854775808 ≤ m.getD k 0 ∧ m.getD k 0 ≤ 9223372036854775807)
    (ha : -9223372036854775808 ≤ at_ ∧ at_ ≤ 9223372036854775807) (hb : -9223372036854775808 ≤ by_ ∧ by_ ≤ 9223372036854775807) :
    HT Try.prog 6 [I w, Gs needs, I raw, I l, I m, .int .i64 at_, .int .i64 by_] (fun r => r = .bool true) := by
  refine HT.of rfl fc6 (Nat.le_of_ble_eq_true rfl) ?_
  unfold c6
  simp only [I, Gs, Bl, argSlots, Nat.reduceAdd]
  refine hx_seq ?_
  refine hx_region ?_
  repeat (first | refine F_mv zT0 rfl ?_ | refine F_nil zT1 ?_)
  refine hx_seq ?_
  refine hx_seq ?_
  refine hx_region ?_
  by_cases hbn : needs.length > 30
  · repeat (first | refine F_mv zT0 rfl ?_ | refine F_nil zT1 ?_ | refine F_lenS (by rfl) ?_ | refine F_gtr (by rfl) (by rfl) zT6 ?_)
    refine hx_true (by rfl) ?_
    refine hx_region ?_
    repeat (first | refine F_mv zT0 rfl ?_ | refine F_nil zT1 ?_ | refine F_slcS (by rfl) (by rfl) (by rfl) (by omega) (by (try simp only [go_sem]); try rfl) zT1 (by (try simp (disch := omega) only [go_sem, reduceIte, Nat.reduceEqDiff, Nat.reduceAdd, Nat.reduceMul]); try rfl) ?_)
    have hE := win_takeB needs
    refine hx_dropN [0, 1, 2, 3, 4, 5, 6] _ (congrArg (fun c : List HV => (⟨[(0, .sl w.length (HL.ints w)), (1, .sl (Int.toNat 30) c), (2, .sl raw.length (HL.ints raw)), (3, .sl l.length (HL.ints l)), (4, .sl m.length (HL.ints m)), (5, .int .i64 at_), (6, .int .i64 by_)], [], 0⟩ : St)) hE) ?_
    have hk := bnds_rest w (needs.take 30) raw l m at_ by_ hw (by simp; omega) (fun i => by
      by_cases hi : i < 30
      · have := h3 i; rw [List.getD_eq_getElem?_getD] at this ⊢; rw [List.getElem?_take_of_lt hi]; exact this
      · rw [List.getD_eq_getElem?_getD, List.getElem?_eq_none (by simp; omega)]; simp) hr hl hm hmr ha hb
    rw [show (needs.take 30).length = Int.toNat 30 by simp; omega] at hk
    exact hk
  · repeat (first | refine F_mv zT0 rfl ?_ | refine F_nil zT1 ?_ | refine F_lenS (by rfl) ?_ | refine F_gtr (by rfl) (by rfl) zT6 ?_)
    refine hx_false (by rfl) ?_
    repeat (first | refine hx_skip ?_)
    refine hx_dropN [0, 1, 2, 3, 4, 5, 6] (⟨[(0, .sl w.length (HL.ints w)), (1, .sl needs.length (rowsI needs)), (2, .sl raw.length (HL.ints raw)), (3, .sl l.length (HL.ints l)), (4, .sl m.length (HL.ints m)), (5, .int .i64 at_), (6, .int .i64 by_)], [], 0⟩ : St) rfl ?_
    exact bnds_rest w needs raw l m at_ by_ hw (by omega) h3 hr hl hm hmr ha hb

end Go.Proofs.Ytkhbiknjkffpjaa
