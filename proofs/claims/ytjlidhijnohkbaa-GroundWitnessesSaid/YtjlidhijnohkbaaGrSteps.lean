/-
  OWN WORK. The program's steps in the value language: the distances from a node.
-/
import Derived.Test.YtjlidhijnohkbaaGrBfs
import Derived.Test.YtjlidhijnohkbaaGrRep
import Derived.Test.YtjlidhijnohkbaaGrV
set_option linter.unusedSimpArgs false
set_option linter.unusedVariables false
namespace Go.Proofs.Ytjlidhijnohkbaa
open Go.RowKit Go.HL

theorem win_nl (fl : List Nat) (off m : Nat) (h : off + m = fl.length) : win (HL.ints (nl fl)) off m = HL.ints (nl (fl.drop off)) := by
  unfold win
  split
  · rename_i hc; rw [hc.1]; simp
  · have e : HL.ints (nl (fl.drop off)) = (HL.ints (nl fl)).drop off := by simp [HL.ints, nl, List.map_drop]
    rw [e, List.take_of_length_le (by simp [HL.ints, nl]; omega)]
theorem drop_getD (fl : List Nat) (off : Nat) (h : off < fl.length) : fl.drop off = fl.getD off 0 :: fl.drop (off + 1) := by
  rw [List.drop_eq_getElem_cons h, ggetD_lt h]

set_option maxHeartbeats 8000000 in
theorem ht_steps (nd : List (List Nat)) (bad : List Bool) (g : Gr nd bad) (i : Nat) (hi : i < nd.length) : HT Try.prog 43 [Gs (nd.map nl), Bl bad, .int .i64 i] (fun r => ∃ out, r = .osl 1 nd.length (HL.ints out) ∧ IsDist nd bad i out) := by
  have hsz := g.size
  have hbl := g.bads
  have hnl : (nd.map nl).length = nd.length := by simp
  refine HT.of rfl fc43 (Nat.le_of_ble_eq_true rfl) ?_
  unfold c43
  simp only [Gs, Bl, argSlots, Nat.reduceAdd]
  rw [hnl, hbl]
  repeat (first | refine F_mv zT0 rfl ?_ | refine F_nil zT1 ?_ | refine F_lenS (by rfl) ?_ | refine hx_seq ?_ | refine hx_region ?_ | refine F_mvnil rfl (by rfl) zT1 ?_ | refine F_bsl zT1 (by (try simp only [List.map_cons, List.map_nil]); repeat (first | (apply eL1; · exact zT0) | rfl)) (by (try simp only [go_sem]); try rfl) (by first | rfl | exact HL.ints_flat _ | exact HL.bools_flat _) (by rfl) (by rfl) ?_)
  refine F_call (by (try simp only [List.map_cons, List.map_nil]); repeat (first | (apply eL1; · exact zT0) | rfl)) (by simp (disch := omega) only [thawL, HV.thaw, allIds, aget, nget, if_true, if_false, reduceIte, Nat.reduceEqDiff, stripL, HV.strip, win_intsE, win_boolsE, Nat.mul_one, List.cons_append, List.nil_append, List.append_nil, I, Bl, T3, List.getD_cons_zero, List.getD_cons_succ, HL.ints_strip, HL.bools_strip, trip_strip]; try rfl) (ht_rep nd.length (by omega) hsz) ?_
  rintro _ rfl
  refine ⟨(by simp only [refFreeL, HV.refFree, noRdL, HV.noRd, HL.ints_noRd, HL.bools_noRd, trip_noRd, Bool.or_true, Bool.true_or, Bool.or_false, Bool.false_or, Bool.and_true, Bool.true_and, Bool.and_self, List.isEmpty_nil, beq_self_eq_true, List.cons_append, List.nil_append]), _, _, _, _, _, zT4, (by decide), (by simp only [upF, upS]; try rfl), ?_⟩
  have hrl : (List.replicate nd.length (-1 : Int)).length = nd.length := by simp
  have h0 : Bf nd i bad [] [i] ((List.replicate nd.length (-1)).set i 0) 0 := Bf.first hi
  repeat (first | refine F_mv zT0 rfl ?_ | refine F_iaR (by rfl) (by rfl) (by omega) zT1 ?_ | refine F_nil zT1 ?_ | refine hx_seq ?_ | refine hx_region ?_ | refine hx_block ?_ | refine F_st (by rfl) zT0 (by (try simp only [go_sem]); try rfl) (by first | rfl | exact HL.ints_flat _ | exact HL.bools_flat _) (by rfl) (by decide) (by first | exact eO rfl | exact eW rfl) (by (try simp only [go_sem]); try rfl) (by (try simp only [go_sem]); first | omega | decide) (by (try simp (disch := omega) only [go_sem]); try rfl) (by (try simp only [go_sem]); try rfl) ?_ | refine F_bsl zT1 (by (try simp only [List.map_cons, List.map_nil]); repeat (first | (apply eL1; · exact zT0) | rfl)) (by (try simp only [go_sem]); try rfl) (by first | rfl | exact HL.ints_flat _ | exact HL.bools_flat _) (by rfl) (by rfl) ?_)
  refine hx_loopG [0, 1, 7, 8] (fun s : List Nat × List Nat × Nat × Nat × List Int × Int => s.2.2.1 + s.2.2.2.1 = s.2.1.length ∧ Bf nd i bad s.1 (s.2.1.drop s.2.2.1) s.2.2.2.2.1 s.2.2.2.2.2 ∧ Closed nd bad s.1 s.2.2.2.2.1)
    (fun s => ⟨[(0, .sl nd.length (rowsI (nd.map nl))), (1, .sl nd.length (HL.bools bad)), (7, .ref 0 [] 1 0 nd.length), (8, .ref 1 [] 1 s.2.2.1 s.2.2.2.1)], [(0, .osl 1 nd.length (HL.ints s.2.2.2.2.1)), (1, .osl 1 s.2.1.length (HL.ints (nl s.2.1)))], 2⟩)
    (fun s => nd.length - s.1.length) ([], [i], 0, 1, (List.replicate nd.length (-1)).set i 0, 0) ⟨rfl, h0, fun k hk => by cases hk⟩ rfl ?_
  clear h0
  rintro ⟨done, fl, off, m, out, lo⟩ ⟨hm, hB, hC⟩
  simp only at hm hB hC ⊢
  have hol := hB.len
  have hfl := nl_len fl
  by_cases hm0 : m = 0
  · have hd : fl.drop off = [] := List.drop_eq_nil_of_le (by omega)
    rw [hd] at hB
    repeat (first | refine F_mv zT0 rfl ?_ | refine F_nil zT1 ?_ | refine F_lenR (by rfl) ?_ | refine hx_exitS (by rfl) ?_ | refine hx_false (by rfl) ?_ | refine hx_seq ?_ | refine hx_region ?_ | refine F_gtr (by rfl) (by rfl) zT6 ?_)
    refine hx_retF (by (try simp only [List.map_cons, List.map_nil]); repeat (first | (apply eL1; · exact zT0) | rfl)) zT5 zT7 ?_
    exact ⟨out, rfl, hB.dist g hi hC⟩
  · have hoff : off < fl.length := by omega
    have hdr := drop_getD fl off hoff
    rw [hdr] at hB
    generalize hk : fl.getD off 0 = k at hB
    have hkm : k ∈ done ++ k :: fl.drop (off + 1) := by simp
    have hkn := hB.lt k hkm
    have hkf := hB.few k hkm
    have hk0 := (hB.vis k hkn).1.2 hkm
    have hsize := hB.size
    simp only [List.length_cons] at hsize
    have hdn : done.length < nd.length := by omega
    have hT := hB.take
    have hrk := nl_len (nd.getD k [])
    have hgk := g.len k
    have hoff1 : off + 1 + ((m : Int) - 1).toNat = fl.length := by omega
    cases hbk : bad.getD k false with
    | true =>
      have hC2 : Closed nd bad (done ++ [k]) out := by
        intro p hp hb
        rcases List.mem_append.1 hp with h | h
        · exact hC p h hb
        · simp at h; subst h; rw [hbk] at hb; cases hb
      repeat (first | refine F_mv zT0 rfl ?_ | refine F_iaS (by rfl) (by rfl) (by omega) zT1 ?_ | refine F_iaR (by rfl) (by rfl) (by omega) zT1 ?_ | refine F_ldP (by rfl) (by (try simp only [go_sem]); first | omega | decide) (by (try simp (disch := omega) only [go_sem, hk, hbk]); try rfl) ?_ | refine F_ldR (by rfl) (by first | exact eO rfl | exact eW rfl) (by (try simp (disch := omega) only [go_sem, reduceIte, Nat.reduceEqDiff, Nat.reduceAdd, Nat.reduceMul, hk, hbk]); try rfl) (by (try simp only [go_sem]); first | omega | decide) (by (try simp (disch := omega) only [go_sem, hk, hbk]); try rfl) zT0 ?_ | refine F_nil zT1 ?_ | refine F_lenR (by rfl) ?_ | refine hx_exitS (by rfl) ?_ | refine hx_true (by rfl) ?_ | refine hx_seq ?_ | refine hx_region ?_ | refine hx_block ?_ | refine hx_skip ?_ | refine F_gtr (by rfl) (by rfl) zT6 ?_ | refine F_slcR (by rfl) (by rfl) (by rfl) (by omega) (by (try simp only [go_sem]); try rfl) zT1 ?_)
      exact hx_lG [0, 1, 7, 8] (done ++ [k], fl, off + 1, ((m : Int) - 1).toNat, out, out.getD k 0) ⟨hoff1, hT, hC2⟩ (by simp only [List.length_append, List.length_cons, List.length_nil]; omega) rfl
    | false =>
      generalize hc : out.getD k 0 = c at hT hkf hk0
      repeat (first | refine F_mv zT0 rfl ?_ | refine F_iaS (by rfl) (by rfl) (by omega) zT1 ?_ | refine F_iaR (by rfl) (by rfl) (by omega) zT1 ?_ | refine F_ldP (by rfl) (by (try simp only [go_sem]); first | omega | decide) (by (try simp (disch := omega) only [go_sem, hk, hbk, nl_getD]); try rfl) ?_ | refine F_ldR (by rfl) (by first | exact eO rfl | exact eW rfl) (by (try simp (disch := omega) only [go_sem, reduceIte, Nat.reduceEqDiff, Nat.reduceAdd, Nat.reduceMul, hk, hbk, nl_getD]); try rfl) (by (try simp only [go_sem]); first | omega | decide) (by (try simp (disch := omega) only [go_sem, hk, hbk, nl_getD]); try rfl) zT0 ?_ | refine F_nil zT1 ?_ | refine F_lenR (by rfl) ?_ | refine F_lenS (by rfl) ?_ | refine hx_true (by rfl) ?_ | refine hx_false (by rfl) ?_ | refine hx_seq ?_ | refine hx_region ?_ | refine hx_block ?_ | refine hx_skip ?_ | refine F_gtr (by rfl) (by rfl) zT6 ?_ | refine F_slcR (by rfl) (by rfl) (by rfl) (by omega) (by (try simp only [go_sem]); try rfl) zT1 ?_)
      refine hx_loopG [0, 1, 7, 8, 9, 36, 37, 38] (fun s : Nat × List Nat × Nat × Nat × List Int => s.1 ≤ (nd.getD k []).length ∧ s.2.2.1 + s.2.2.2.1 = s.2.1.length ∧ Bf nd i bad (done ++ [k]) (s.2.1.drop s.2.2.1) s.2.2.2.2 c ∧ s.2.2.2.2.getD k 0 = c ∧ Closed nd bad done s.2.2.2.2 ∧ ∀ q, q < s.1 → 0 ≤ s.2.2.2.2.getD ((nd.getD k []).getD q 0) 0 ∧ s.2.2.2.2.getD ((nd.getD k []).getD q 0) 0 ≤ c + 1)
        (fun s => ⟨[(0, .sl nd.length (rowsI (nd.map nl))), (1, .sl nd.length (HL.bools bad)), (7, .ref 0 [] 1 0 nd.length), (8, .ref 1 [] 1 s.2.2.1 s.2.2.2.1), (9, .int .i64 k), (36, .sl (nd.getD k []).length (HL.ints (nl (nd.getD k [])))), (37, .int .i64 (nd.getD k []).length), (38, .int .i64 s.1)], [(0, .osl 1 nd.length (HL.ints s.2.2.2.2)), (1, .osl 1 s.2.1.length (HL.ints (nl s.2.1)))], 2⟩)
        (fun s => (nd.getD k []).length - s.1) (0, fl, off + 1, ((m : Int) - 1).toNat, out) ⟨by simp, hoff1, hT, hc, hC, by simp⟩ rfl ?_
      clear hsize hT hC hoff1 hB hdr hoff hm0 hfl hol hm hk hc hkm
      clear out m off fl
      rintro ⟨e, fl, off, m, out⟩ ⟨he, hm, hB, hc, hC, hq⟩
      simp only at he hm hB hc hC hq ⊢
      have hol := hB.len
      have hfl := nl_len fl
      have hsz2 := hB.size
      simp only [List.length_append, List.length_cons, List.length_nil, List.length_drop] at hsz2
      by_cases hel : e < (nd.getD k []).length
      · have hjm := getD_mem (nd.getD k []) e 0 hel
        have hjn := g.lt k _ hjm
        generalize hj : (nd.getD k []).getD e 0 = j at hjm hjn
        by_cases hneg : out.getD j 0 < 0
        · have hB2 := hB.find hc.symm (by rw [hc]; exact hkf) hbk hjn hjm hneg
          have hkne : j ≠ k := fun h => by subst h; omega
          have hC2 := hC.set (x := c + 1) (by omega) hneg fun p hp => (hB.vis p (hB.lt p (by simp [hp]))).1.2 (by simp [hp])
          have hgs : ∀ v, (out.set j (c + 1)).getD v 0 = if j = v then c + 1 else out.getD v 0 := fun v => getD_set _ _ _ _ _ (by omega)
          have hw := win_nl fl off m hm
          have hdl : (fl.drop off ++ [j]).length = m + 1 := by simp; omega
          rw [hc] at hB2
          have hck : c ≤ 256 := by omega
          repeat (first | refine F_mv zT0 rfl ?_ | refine F_iaS (by rfl) (by rfl) (by omega) zT1 ?_ | refine F_iaR (by rfl) (by rfl) (by omega) zT1 ?_ | refine F_ldP (by rfl) (by (try simp only [go_sem]); first | omega | decide) (by (try simp (disch := omega) only [go_sem, hj, hc, hw]); try rfl) ?_ | refine F_ldR (by rfl) (by first | exact eO rfl | exact eW rfl) (by (try simp (disch := omega) only [go_sem, reduceIte, Nat.reduceEqDiff, Nat.reduceAdd, Nat.reduceMul, hj, hc, hw]); try rfl) (by (try simp only [go_sem]); first | omega | decide) (by (try simp (disch := omega) only [go_sem, hj, hc, hw]); try rfl) zT0 ?_ | refine F_nil zT1 ?_ | refine F_lss (by rfl) (by rfl) zT6 ?_ | refine F_add (by rfl) (by rfl) (by (try simp (disch := omega) only [go_sem, Int.reduceAdd, Int.reduceSub, Int.reduceMul, hj, hc, hw]); try rfl) ?_ | refine hx_true (by rfl) ?_ | refine hx_seq ?_ | refine hx_region ?_ | refine hx_block ?_ | refine hx_b ?_ | refine hx_skip ?_ | refine F_st (by rfl) zT0 (by (try simp only [go_sem]); try rfl) (by first | rfl | exact HL.ints_flat _ | exact HL.bools_flat _) (by rfl) (by decide) (by first | exact eO rfl | exact eW rfl) (by (try simp only [go_sem]); try rfl) (by (try simp only [go_sem]); first | omega | decide) (by (try simp (disch := omega) only [go_sem, hj, hc, hw]); try rfl) (by (try simp only [go_sem]); try rfl) ?_ | refine F_bsl zT1 (by (try simp only [List.map_cons, List.map_nil]); repeat (first | (apply eL1; · exact zT0) | rfl)) (by (try simp only [go_sem]); try rfl) (by first | rfl | exact HL.ints_flat _ | exact HL.bools_flat _) (by rfl) (by rfl) ?_ | refine F_appR zT1 (by rfl) zT0 zT9 (by (try simp (disch := omega) only [go_sem, reduceIte, Nat.reduceEqDiff, Nat.reduceAdd, Nat.reduceMul, hj, hc, hw]); try omega) (by first | exact eO rfl | exact eW rfl) (by (try simp (disch := omega) only [go_sem, reduceIte, Nat.reduceEqDiff, Nat.reduceAdd, Nat.reduceMul, hj, hc, hw]); try rfl) zT1 (by omega) (by unfold maxLen; omega) (by (try simp only [go_sem]); first | omega | decide) (by (try simp (disch := omega) only [go_sem, reduceIte, Nat.reduceEqDiff, Nat.reduceAdd, Nat.reduceMul, hj, hc, hw]); try rfl) (by (try simp only [go_sem]); try rfl) ?_)
          refine hx_lG [0, 1, 7, 8, 9, 36, 37, 38] (e + 1, fl.drop off ++ [j], 0, m + 1, out.set j (c + 1)) ⟨hel, by simp only; omega, by simp only [List.drop_zero]; exact hB2, by simp only; rw [hgs, if_neg hkne]; exact hc, hC2, fun q hq' => ?_⟩ (by simp only; omega) (by rw [← hdl]; rfl)
          simp only
          rw [hgs]
          split
          · omega
          · rename_i hne
            by_cases h : q = e
            · subst h; exact absurd hj.symm hne
            · exact hq q (by omega)
        · have hs := hB.seen hjn (by omega)
          repeat (first | refine F_mv zT0 rfl ?_ | refine F_iaS (by rfl) (by rfl) (by omega) zT1 ?_ | refine F_iaR (by rfl) (by rfl) (by omega) zT1 ?_ | refine F_ldP (by rfl) (by (try simp only [go_sem]); first | omega | decide) (by (try simp (disch := omega) only [go_sem, hj]); try rfl) ?_ | refine F_ldR (by rfl) (by first | exact eO rfl | exact eW rfl) (by (try simp (disch := omega) only [go_sem, reduceIte, Nat.reduceEqDiff, Nat.reduceAdd, Nat.reduceMul, hj]); try rfl) (by (try simp only [go_sem]); first | omega | decide) (by (try simp (disch := omega) only [go_sem, hj]); try rfl) zT0 ?_ | refine F_nil zT1 ?_ | refine F_lss (by rfl) (by rfl) zT6 ?_ | refine F_add (by rfl) (by rfl) (by (try simp (disch := omega) only [go_sem, Int.reduceAdd, Int.reduceSub, Int.reduceMul, hj]); try rfl) ?_ | refine hx_true (by rfl) ?_ | refine hx_false (by rfl) ?_ | refine hx_seq ?_ | refine hx_region ?_ | refine hx_block ?_ | refine hx_b ?_ | refine hx_skip ?_)
          refine hx_lG [0, 1, 7, 8, 9, 36, 37, 38] (e + 1, fl, off, m, out) ⟨hel, hm, hB, hc, hC, fun q hq' => ?_⟩ (by simp only; omega) rfl
          by_cases h : q = e
          · subst h; simp only; rw [hj]; omega
          · exact hq q (by simp only at hq'; omega)
      · have hC2 : Closed nd bad (done ++ [k]) out := by
          intro p hp hb v hv
          rcases List.mem_append.1 hp with h | h
          · exact hC p h hb v hv
          · simp at h; subst h
            obtain ⟨q, hq1, rfl⟩ := mem_getD 0 hv
            rw [hc]
            exact hq q (by omega)
        repeat (first | refine F_nil zT1 ?_ | refine F_lss (by rfl) (by rfl) zT6 ?_ | refine hx_exitS (by rfl) ?_ | refine hx_false (by rfl) ?_ | refine hx_seq ?_ | refine hx_region ?_ | refine hx_b ?_)
        exact hx_lG [0, 1, 7, 8] (done ++ [k], fl, off, m, out, c) ⟨hm, hB, hC2⟩ (by simp only [List.length_append, List.length_cons, List.length_nil]; omega) rfl

end Go.Proofs.Ytjlidhijnohkbaa
