/-
  OWN WORK. Check of the reference of package ground in the value language.
-/
import Derived.Test.YtjlidhijnohkbaaGrChk
set_option linter.unusedSimpArgs false
set_option linter.unusedVariables false
namespace Go.Proofs.Ytjlidhijnohkbaa
open Go.RowKit Go.HL

set_option maxHeartbeats 8000000 in
theorem ht_rcheck24 (nd : List (List Nat)) (bad : List Bool) (rank : List Int) (g : Gr nd bad) (hl : rank.length = nd.length) :
    HT Try.prog 22 [Gs (nd.map nl), Bl bad, I rank] (fun r => ∃ b, r = .bool b ∧ (b = true ↔ IsCert nd bad rank)) := by
  have hsz := g.size
  have hbl := g.bads
  have hnl : (nd.map nl).length = nd.length := by simp
  have hrow : ∀ i, ((nd.map nl).getD i []).length ≤ 256 := fun i => by rw [nl_getD, nl_len]; have := g.len i; omega
  refine HT.of rfl fc22 (Nat.le_of_ble_eq_true rfl) ?_
  unfold c22
  simp only [Gs, Bl, I, argSlots, Nat.reduceAdd]
  repeat (first | refine F_mv (by first | exact eI rfl | exact eB rfl | exact eR rfl | exact eS rfl | exact eP rfl | exact eT rfl | exact eA rfl | exact eN rfl | exact eQ rfl | exact eF rfl | exact eD rfl) rfl ?_ | refine F_nil (by (try simp only [go_sem, reduceIte, Nat.reduceEqDiff, Nat.reduceAdd, Nat.reduceMul]); try rfl) ?_ | refine hx_seq ?_ | refine hx_region ?_)
  refine F_call (by (try simp only [List.map_cons, List.map_nil]); repeat (first | (apply eL1; · exact (by first | exact eI rfl | exact eB rfl | exact eR rfl | exact eS rfl | exact eP rfl | exact eT rfl | exact eA rfl | exact eN rfl | exact eQ rfl | exact eF rfl | exact eD rfl)) | rfl)) (by simp (disch := omega) only [thawL, Gs, rowsI_strip, rowsI_win, HV.thaw, allIds, aget, nget, if_true, if_false, reduceIte, Nat.reduceEqDiff, stripL, HV.strip, win_intsE, win_boolsE, Nat.mul_one, List.cons_append, List.nil_append, List.append_nil, I, Bl, T3, List.getD_cons_zero, List.getD_cons_succ, HL.ints_strip, HL.bools_strip, trip_strip]; try rfl) (ht_rvalid24 (nd.map nl) bad (by omega) (by omega) (fun i => by have := hrow i; omega)) ?_
  rintro _ ⟨b, rfl, hb⟩
  obtain rfl : b = true := hb.2 g.vg
  refine ⟨(by simp only [refFreeL, HV.refFree, noRdL, HV.noRd, HL.ints_noRd, HL.bools_noRd, trip_noRd, Bool.or_true, Bool.true_or, Bool.or_false, Bool.false_or, Bool.and_true, Bool.true_and, Bool.and_self, List.isEmpty_nil, beq_self_eq_true, List.cons_append, List.nil_append]), _, _, _, _, _, (by simp only [unpack, unpackL, List.append_nil, List.nil_append, List.cons_append, stride, Nat.reduceAdd, Nat.reduceMul, Nat.zero_add]; try rfl), (by decide), (by simp only [upF, upS]; try rfl), ?_⟩
  rw [hnl, hbl, hl]
  have no : ∀ i, i < nd.length → ¬ okR nd bad rank i → ∃ b, HV.bool false = .bool b ∧ (b = true ↔ IsCert nd bad rank) := fun i hi h => ⟨false, rfl, by simp; intro hc; exact h (hc.2 i hi)⟩
  repeat (first | refine F_mv (by first | exact eI rfl | exact eB rfl | exact eR rfl | exact eS rfl | exact eP rfl | exact eT rfl | exact eA rfl | exact eN rfl | exact eQ rfl | exact eF rfl | exact eD rfl) rfl ?_ | refine F_yes (by rfl) (by rfl) ?_ | refine F_nil (by (try simp only [go_sem, reduceIte, Nat.reduceEqDiff, Nat.reduceAdd, Nat.reduceMul]); try rfl) ?_ | refine F_neq (by rfl) (by rfl) (by first | exact neF (by omega) | exact neT (by omega) | rfl) ?_ | refine F_pickF (by rfl) (by first | exact eI rfl | exact eB rfl | exact eR rfl | exact eS rfl | exact eP rfl | exact eT rfl | exact eA rfl | exact eN rfl | exact eQ rfl | exact eF rfl | exact eD rfl) ?_ | refine F_lenS (by rfl) ?_ | refine hx_false (by rfl) ?_ | refine hx_seq ?_ | refine hx_region ?_ | refine hx_block ?_ | refine hx_skip ?_ | refine F_notT (by rfl) ?_)
  refine hx_loopG [0, 1, 2, 7] (fun i : Nat => i ≤ nd.length ∧ ∀ j, j < i → okR nd bad rank j) (fun i => ⟨[(0, .sl nd.length (rowsI (nd.map nl))), (1, .sl nd.length (HL.bools bad)), (2, .sl nd.length (HL.ints rank)), (7, .int .i64 i)], [], 0⟩) (fun i => nd.length - i) 0 ⟨by omega, by omega⟩ rfl ?_
  rintro i ⟨hi, ho⟩
  by_cases hin : i < nd.length
  · have hlen := g.len i
    have hrl := nl_len (nd.getD i [])
    have next : okR nd bad rank i → (i + 1 ≤ nd.length ∧ ∀ j, j < i + 1 → okR nd bad rank j) := fun h => ⟨hin, fun j hj => by
      by_cases e : j = i
      · subst e; exact h
      · exact ho j (by omega)⟩
    have no' := no i hin
    have hjn : ∀ k, k < (nd.getD i []).length → (nd.getD i []).getD k 0 < nd.length := fun k hk => g.lt i _ (getD_mem _ _ _ hk)
    generalize hr : rank.getD i 0 = r
    generalize hbi : bad.getD i false = bi
    repeat (first | refine F_mv (by first | exact eI rfl | exact eB rfl | exact eR rfl | exact eS rfl | exact eP rfl | exact eT rfl | exact eA rfl | exact eN rfl | exact eQ rfl | exact eF rfl | exact eD rfl) rfl ?_ | refine F_iaS (by rfl) (by rfl) (by omega) (by (try simp only [go_sem, reduceIte, Nat.reduceEqDiff, Nat.reduceAdd, Nat.reduceMul]); try rfl) ?_ | refine F_ldP (by rfl) (by (try simp only [go_sem]); first | omega | decide) (by (try simp (disch := omega) only [go_sem, hbi]); try rfl) ?_ | refine F_nil (by (try simp only [go_sem, reduceIte, Nat.reduceEqDiff, Nat.reduceAdd, Nat.reduceMul]); try rfl) ?_ | refine F_lss (by rfl) (by rfl) (by first | exact ltT (by omega) | exact ltF (by omega) | rfl) ?_ | refine F_lenS (by rfl) ?_ | refine hx_true (by rfl) ?_ | refine hx_seq ?_ | refine hx_region ?_ | refine hx_block ?_ | refine hx_skip ?_ | refine F_not (by rfl) (by (try simp only [go_sem, reduceIte, hbi]); try rfl) ?_)
    refine hx_loopG [0, 1, 2, 7, 8, 9, 10] (fun s : Nat × Bool × Bool => s.1 ≤ (nd.getD i []).length ∧ (s.2.1 = true ↔ bi = false ∧ ∀ q, q < s.1 → 0 ≤ rank.getD ((nd.getD i []).getD q 0) 0 ∧ rank.getD ((nd.getD i []).getD q 0) 0 < r) ∧ (s.2.2 = true ↔ bi = true ∨ ∃ q, q < s.1 ∧ rank.getD ((nd.getD i []).getD q 0) 0 = -1))
      (fun s => ⟨[(0, .sl nd.length (rowsI (nd.map nl))), (1, .sl nd.length (HL.bools bad)), (2, .sl nd.length (HL.ints rank)), (7, .int .i64 i), (8, .bool s.2.1), (9, .bool s.2.2), (10, .int .i64 s.1)], [], 0⟩) (fun s => (nd.getD i []).length - s.1) (0, !bi, bi) ⟨by simp, by cases bi <;> simp, by cases bi <;> simp⟩ rfl ?_
    rintro ⟨k, below, opn⟩ ⟨hk, hB, hO⟩
    simp only at hk hB hO ⊢
    by_cases hkl : k < (nd.getD i []).length
    · have hj := hjn k hkl
      have hB1 : (bi = false ∧ ∀ q, q < k + 1 → 0 ≤ rank.getD ((nd.getD i []).getD q 0) 0 ∧ rank.getD ((nd.getD i []).getD q 0) 0 < r) ↔ (below = true ∧ 0 ≤ rank.getD ((nd.getD i []).getD k 0) 0 ∧ rank.getD ((nd.getD i []).getD k 0) 0 < r) := by
        rw [hB]
        constructor
        · rintro ⟨a, b⟩; exact ⟨⟨a, fun q hq => b q (by omega)⟩, b k (by omega)⟩
        · rintro ⟨⟨a, b⟩, c⟩
          refine ⟨a, fun q hq => ?_⟩
          by_cases e : q = k
          · subst e; exact c
          · exact b q (by omega)
      have hO1 : (bi = true ∨ ∃ q, q < k + 1 ∧ rank.getD ((nd.getD i []).getD q 0) 0 = -1) ↔ (opn = true ∨ rank.getD ((nd.getD i []).getD k 0) 0 = -1) := by
        rw [hO]
        constructor
        · rintro (a | ⟨q, a, b⟩)
          · exact .inl (.inl a)
          · by_cases e : q = k
            · subst e; exact .inr b
            · exact .inl (.inr ⟨q, by omega, b⟩)
        · rintro ((a | ⟨q, a, b⟩) | a)
          · exact .inl a
          · exact .inr ⟨q, by omega, b⟩
          · exact .inr ⟨k, by omega, a⟩
      clear hB hO no' next ho no
      generalize hrk : rank.getD ((nd.getD i []).getD k 0) 0 = rk at hB1 hO1
      by_cases c1 : 0 ≤ rk <;> by_cases c2 : rk < r <;> by_cases c3 : rk = -1 <;> cases below <;> cases opn <;>
      (first
        | (exfalso; omega)
        | (repeat (first | refine F_mv (by first | exact eI rfl | exact eB rfl | exact eR rfl | exact eS rfl | exact eP rfl | exact eT rfl | exact eA rfl | exact eN rfl | exact eQ rfl | exact eF rfl | exact eD rfl) rfl ?_ | refine F_yes (by rfl) (by rfl) ?_ | refine F_no (by rfl) (by rfl) ?_ | refine F_iaS (by rfl) (by rfl) (by omega) (by (try simp only [go_sem, reduceIte, Nat.reduceEqDiff, Nat.reduceAdd, Nat.reduceMul]); try rfl) ?_ | refine F_ldP (by rfl) (by (try simp only [go_sem]); first | omega | decide) (by (try simp (disch := omega) only [go_sem, nl_getD, hrk, hr]); try rfl) ?_ | refine F_nil (by (try simp only [go_sem, reduceIte, Nat.reduceEqDiff, Nat.reduceAdd, Nat.reduceMul]); try rfl) ?_ | refine F_lss (by rfl) (by rfl) (by first | exact ltT (by omega) | exact ltF (by omega) | rfl) ?_ | refine F_eql (by rfl) (by rfl) (by first | exact eqT (by omega) | exact eqF (by omega) | rfl) ?_ | refine F_pickT (by rfl) (by first | exact eI rfl | exact eB rfl | exact eR rfl | exact eS rfl | exact eP rfl | exact eT rfl | exact eA rfl | exact eN rfl | exact eQ rfl | exact eF rfl | exact eD rfl) ?_ | refine F_pickF (by rfl) (by first | exact eI rfl | exact eB rfl | exact eR rfl | exact eS rfl | exact eP rfl | exact eT rfl | exact eA rfl | exact eN rfl | exact eQ rfl | exact eF rfl | exact eD rfl) ?_ | refine F_add (by rfl) (by rfl) (by (try simp (disch := omega) only [go_sem, Int.reduceAdd, Int.reduceSub, Int.reduceMul, nl_getD, hrk, hr]); try rfl) ?_ | refine F_lenS (by rfl) ?_ | refine hx_true (by rfl) ?_ | refine hx_seq ?_ | refine hx_region ?_ | refine hx_block ?_ | refine hx_b ?_ | refine hx_skip ?_ | refine F_geq (by rfl) (by rfl) (by first | exact leT (by omega) | exact leF (by omega) | rfl) ?_)
           refine hx_lG [0, 1, 2, 7, 8, 9, 10] (k + 1, _, _) ?h1 ?h2 rfl
           case h1 => exact ⟨hkl, by rw [hB1]; simp [c1, c2], by rw [hO1]; simp [c3]⟩
           case h2 => simp only; omega))
    · obtain rfl : k = (nd.getD i []).length := by omega
      have hB2 : below = true ↔ bi = false ∧ ∀ j ∈ nd.getD i [], 0 ≤ rank.getD j 0 ∧ rank.getD j 0 < r := by
        rw [hB]
        constructor
        · rintro ⟨a, b⟩; exact ⟨a, fun j hj => by obtain ⟨q, hq, rfl⟩ := mem_getD 0 hj; exact b q hq⟩
        · rintro ⟨a, b⟩; exact ⟨a, fun q hq => b _ (getD_mem _ _ _ hq)⟩
      have hO2 : opn = true ↔ bi = true ∨ ∃ j ∈ nd.getD i [], rank.getD j 0 = -1 := by
        rw [hO]
        constructor
        · rintro (a | ⟨q, a, b⟩)
          · exact .inl a
          · exact .inr ⟨_, getD_mem _ _ _ a, b⟩
        · rintro (a | ⟨j, a, b⟩)
          · exact .inl a
          · obtain ⟨q, hq, rfl⟩ := mem_getD 0 a; exact .inr ⟨q, hq, b⟩
      have hok : okR nd bad rank i ↔ (-1 ≤ r ∧ (0 ≤ r → below = true) ∧ (r = -1 → opn = true)) := by
        unfold okR; rw [hr, hbi, hB2, hO2]
      clear hB hO hB2 hO2
      by_cases a1 : r < -1 <;> by_cases a2 : 0 ≤ r <;> by_cases a3 : r = -1 <;> cases below <;> cases opn <;>
      (first
        | (exfalso; omega)
        | (repeat (first | refine F_mv (by first | exact eI rfl | exact eB rfl | exact eR rfl | exact eS rfl | exact eP rfl | exact eT rfl | exact eA rfl | exact eN rfl | exact eQ rfl | exact eF rfl | exact eD rfl) rfl ?_ | refine F_yes (by rfl) (by rfl) ?_ | refine F_no (by rfl) (by rfl) ?_ | refine F_iaS (by rfl) (by rfl) (by omega) (by (try simp only [go_sem, reduceIte, Nat.reduceEqDiff, Nat.reduceAdd, Nat.reduceMul]); try rfl) ?_ | refine F_ldP (by rfl) (by (try simp only [go_sem]); first | omega | decide) (by (try simp (disch := omega) only [go_sem, nl_getD, hr]); try rfl) ?_ | refine F_nil (by (try simp only [go_sem, reduceIte, Nat.reduceEqDiff, Nat.reduceAdd, Nat.reduceMul]); try rfl) ?_ | refine F_lss (by rfl) (by rfl) (by first | exact ltT (by omega) | exact ltF (by omega) | rfl) ?_ | refine F_eql (by rfl) (by rfl) (by first | exact eqT (by omega) | exact eqF (by omega) | rfl) ?_ | refine F_pickT (by rfl) (by first | exact eI rfl | exact eB rfl | exact eR rfl | exact eS rfl | exact eP rfl | exact eT rfl | exact eA rfl | exact eN rfl | exact eQ rfl | exact eF rfl | exact eD rfl) ?_ | refine F_pickF (by rfl) (by first | exact eI rfl | exact eB rfl | exact eR rfl | exact eS rfl | exact eP rfl | exact eT rfl | exact eA rfl | exact eN rfl | exact eQ rfl | exact eF rfl | exact eD rfl) ?_ | refine F_add (by rfl) (by rfl) (by (try simp (disch := omega) only [go_sem, Int.reduceAdd, Int.reduceSub, Int.reduceMul, nl_getD, hr]); try rfl) ?_ | refine F_lenS (by rfl) ?_ | refine hx_exitS (by rfl) ?_ | refine hx_true (by rfl) ?_ | refine hx_false (by rfl) ?_ | refine hx_seq ?_ | refine hx_region ?_ | refine hx_b ?_ | refine hx_skip ?_ | refine F_noU (by rfl) (by rfl) ?_ | refine F_geq (by rfl) (by rfl) (by first | exact leT (by omega) | exact leF (by omega) | rfl) ?_ | refine F_notT (by rfl) ?_ | refine F_notF (by rfl) ?_)
           first
           | exact hx_lG [0, 1, 2, 7] (i + 1) (next (hok.2 ⟨by omega, by simp [a2], by simp [a3]⟩)) (by omega) rfl
           | (refine hx_retF (by (try simp only [List.map_cons, List.map_nil]); repeat (first | (apply eL1; · exact (by first | exact eI rfl | exact eB rfl | exact eR rfl | exact eS rfl | exact eP rfl | exact eT rfl | exact eA rfl | exact eN rfl | exact eQ rfl | exact eF rfl | exact eD rfl)) | rfl)) (by simp only [takeDL, takeD, takeC, aget, Lk.upd, if_true, if_false, reduceIte, Nat.reduceEqDiff, List.append_nil, List.nil_append]; try rfl) (by first | trivial | (refine ⟨?_, ?_⟩ <;> trivial) | (simp only [and_true, true_and]; done)) ?_
              exact no' (fun h => by have h3 := hok.1 h; simp [a2, a3] at h3; try omega))))
  · repeat (first | refine F_mv (by first | exact eI rfl | exact eB rfl | exact eR rfl | exact eS rfl | exact eP rfl | exact eT rfl | exact eA rfl | exact eN rfl | exact eQ rfl | exact eF rfl | exact eD rfl) rfl ?_ | refine F_nil (by (try simp only [go_sem, reduceIte, Nat.reduceEqDiff, Nat.reduceAdd, Nat.reduceMul]); try rfl) ?_ | refine F_lss (by rfl) (by rfl) (by first | exact ltT (by omega) | exact ltF (by omega) | rfl) ?_ | refine F_lenS (by rfl) ?_ | refine hx_exitS (by rfl) ?_ | refine hx_false (by rfl) ?_ | refine hx_seq ?_ | refine hx_region ?_)
    refine hx_retF (by (try simp only [List.map_cons, List.map_nil]); repeat (first | (apply eL1; · exact (by first | exact eI rfl | exact eB rfl | exact eR rfl | exact eS rfl | exact eP rfl | exact eT rfl | exact eA rfl | exact eN rfl | exact eQ rfl | exact eF rfl | exact eD rfl)) | rfl)) (by simp only [takeDL, takeD, takeC, aget, Lk.upd, if_true, if_false, reduceIte, Nat.reduceEqDiff, List.append_nil, List.nil_append]; try rfl) (by first | trivial | (refine ⟨?_, ?_⟩ <;> trivial) | (simp only [and_true, true_and]; done)) ?_
    exact ⟨true, rfl, by simp; exact ⟨hl, fun j hj => ho j (by omega)⟩⟩

/-- Both give the same. -/
theorem gcheck_both (nd : List (List Nat)) (bad : List Bool) (rank : List Int) (g : Gr nd bad) (hr : rank.length ≤ 9223372036854775807) : ∃ b,
    HT Try.prog 21 [Gs (nd.map nl), Bl bad, I rank] (fun r => r = .bool b) ∧ HT Try.prog 22 [Gs (nd.map nl), Bl bad, I rank] (fun r => r = .bool b) := by
  have hsz := g.size
  have hbl := g.bads
  have hnl : (nd.map nl).length = nd.length := by simp
  have hrow : ∀ i, ((nd.map nl).getD i []).length ≤ 9223372036854775807 := fun i => by rw [nl_getD, nl_len]; have := g.len i; omega
  by_cases hl : rank.length = nd.length
  · by_cases hc : IsCert nd bad rank
    · refine ⟨true, (ht_gcheck nd bad rank g hl).mono ?_, (ht_rcheck24 nd bad rank g hl).mono ?_⟩ <;>
      · rintro r ⟨b, rfl, hb⟩; rw [hb.2 hc]
    · refine ⟨false, (ht_gcheck nd bad rank g hl).mono ?_, (ht_rcheck24 nd bad rank g hl).mono ?_⟩ <;>
      · rintro r ⟨b, rfl, hb⟩
        cases b with
        | false => rfl
        | true => exact absurd (hb.1 rfl) hc
  · exact ⟨false, ht_gcheck_bad _ bad rank (by omega) (by omega) hrow (.inr (by rw [hnl]; exact hl)), ht_rcheck24_bad _ bad rank (by omega) (by omega) hrow (.inr (by rw [hnl]; exact hl))⟩

end Go.Proofs.Ytjlidhijnohkbaa
