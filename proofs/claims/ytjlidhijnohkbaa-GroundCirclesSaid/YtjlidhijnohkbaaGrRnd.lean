/-
  OWN WORK. The reference's search for a circle in the value language: the path is given away.
-/
import Derived.Test.YtjlidhijnohkbaaGrRndP
import Derived.Test.YtjlidhijnohkbaaGrHas
import Derived.Test.YtjlidhijnohkbaaGrWitn
set_option linter.unusedSimpArgs false
set_option linter.unusedVariables false
namespace Go.Proofs.Ytjlidhijnohkbaa
open Go.RowKit Go.HL

theorem win_take (path : List Nat) {k : Nat} (h : k < path.length) : win (HL.ints (nl path)) 0 k = HL.ints (nl (path.take k)) := by
  unfold win
  rw [if_neg (by rw [HL.ints_len, nl_len]; omega)]
  simp [HL.ints, nl, List.map_take]

set_option maxHeartbeats 8000000 in
theorem ht_round (nd : List (List Nat)) (bad : List Bool) (g : Gr nd bad) (n : Nat) (hn : n ≤ 300) : ∀ (f : Nat) (path : List Nat), path.length + f = n → 0 < path.length → (∀ x ∈ path, x < nd.length) →
    HTM Try.prog 38 [Gs (nd.map nl), Bl bad, .osl 1 path.length (HL.ints (nl path)), .int .i64 n] (fun r => r = .osl 1 (rnd nd bad f path).length (HL.ints (nl (rnd nd bad f path)))) := by
  have hsz := g.size
  have hbl := g.bads
  have hnl : (nd.map nl).length = nd.length := by simp
  intro f
  induction f with
  | zero =>
    intro path hlen hpos hlt
    have hnp := nl_len path
    have hpm : ((path.length : Int) - 1) = ((path.length - 1 : Nat) : Int) := by omega
    obtain ⟨p, hp⟩ : ∃ p, lastN path = p := ⟨_, rfl⟩
    have hp' : path.getD (path.length - 1) 0 = p := hp
    have hpn : p < nd.length := by rw [← hp']; exact hlt _ (getD_mem path _ 0 (by omega))
    obtain ⟨p0, hp0⟩ : ∃ p0, path.getD 0 0 = p0 := ⟨_, rfl⟩
    obtain ⟨row, hrow⟩ : ∃ row, nd.getD p [] = row := ⟨_, rfl⟩
    have hrl : row.length ≤ nd.length := by rw [← hrow]; exact g.len p
    have hnr := nl_len row
    simp only [Gs, Bl]
    rw [hnl, hbl, rnd, hp, hp0, hrow]
    refine HTM.of rfl fc38 (Nat.le_of_ble_eq_true rfl) (⟨[(0, .sl nd.length (rowsI (nd.map nl))), (1, .sl nd.length (HL.bools bad)), (2, .ref 0 [] 1 0 path.length), (3, .int .i64 n)], [(0, .osl 1 path.length (HL.ints (nl path)))], 1⟩ : St) rfl ?_
    unfold c38
    repeat (first | refine F_mv (by first | exact eI rfl | exact eB rfl | exact eR rfl | exact eS rfl | exact eP rfl | exact eT rfl | exact eA rfl | exact eN rfl | exact eQ rfl | exact eF rfl | exact eD rfl) rfl ?_ | refine F_iaR (by rfl) (by rfl) (by omega) (by (try simp only [go_sem, reduceIte, Nat.reduceEqDiff, Nat.reduceAdd, Nat.reduceMul]); try rfl) ?_ | refine F_ldR (by rfl) (by first | exact eO rfl | exact eW rfl) (by (try simp (disch := omega) only [go_sem, reduceIte, Nat.reduceEqDiff, Nat.reduceAdd, Nat.reduceMul, hpm, hp']); try rfl) (by (try simp only [go_sem]); first | omega | decide) (by (try simp (disch := omega) only [go_sem, hpm, hp']); try rfl) (by first | exact eI rfl | exact eB rfl | exact eR rfl | exact eS rfl | exact eP rfl | exact eT rfl | exact eA rfl | exact eN rfl | exact eQ rfl | exact eF rfl | exact eD rfl) ?_ | refine F_nil (by (try simp only [go_sem, reduceIte, Nat.reduceEqDiff, Nat.reduceAdd, Nat.reduceMul]); try rfl) ?_ | refine F_eql (by rfl) (by rfl) (by first | exact eqT (by omega) | exact eqF (by omega) | rfl) ?_ | refine F_lenR (by rfl) ?_ | refine hx_true (by rfl) ?_ | refine hx_seq ?_ | refine hx_region ?_ | refine F_mvnil rfl (by rfl) (by (try simp only [go_sem, reduceIte, Nat.reduceEqDiff, Nat.reduceAdd, Nat.reduceMul]); try rfl) ?_ | refine F_sub (by rfl) (by rfl) (by (try simp (disch := omega) only [go_sem, Int.reduceAdd, Int.reduceSub, Int.reduceMul, hpm, hp']); try rfl) ?_)
    refine hx_draw (by kernel_rfl) (by kernel_rfl) (fun _ _ r => IsBl ((p0 : Int) ∈ nl row) r) ?_
    repeat (first | refine F_mv (by first | exact eI rfl | exact eB rfl | exact eR rfl | exact eS rfl | exact eP rfl | exact eT rfl | exact eA rfl | exact eN rfl | exact eQ rfl | exact eF rfl | exact eD rfl) rfl ?_ | refine F_iaS (by rfl) (by rfl) (by omega) (by (try simp only [go_sem, reduceIte, Nat.reduceEqDiff, Nat.reduceAdd, Nat.reduceMul]); try rfl) ?_ | refine F_iaR (by rfl) (by rfl) (by omega) (by (try simp only [go_sem, reduceIte, Nat.reduceEqDiff, Nat.reduceAdd, Nat.reduceMul]); try rfl) ?_ | refine F_ldP (by rfl) (by (try simp only [go_sem]); first | omega | decide) (by (try simp (disch := omega) only [go_sem, nl_getD, hrow, hp0]); try rfl) ?_ | refine F_ldR (by rfl) (by first | exact eO rfl | exact eW rfl) (by (try simp (disch := omega) only [go_sem, reduceIte, Nat.reduceEqDiff, Nat.reduceAdd, Nat.reduceMul, nl_getD, hrow, hp0]); try rfl) (by (try simp only [go_sem]); first | omega | decide) (by (try simp (disch := omega) only [go_sem, nl_getD, hrow, hp0]); try rfl) (by first | exact eI rfl | exact eB rfl | exact eR rfl | exact eS rfl | exact eP rfl | exact eT rfl | exact eA rfl | exact eN rfl | exact eQ rfl | exact eF rfl | exact eD rfl) ?_)
    refine F_callD (by (try simp only [List.map_cons, List.map_nil]); repeat (first | (apply eL1; · exact (by first | exact eI rfl | exact eB rfl | exact eR rfl | exact eS rfl | exact eP rfl | exact eT rfl | exact eA rfl | exact eN rfl | exact eQ rfl | exact eF rfl | exact eD rfl)) | rfl)) (by simp (disch := omega) only [thawL, hnr, HV.thaw, allIds, aget, nget, if_true, if_false, reduceIte, Nat.reduceEqDiff, stripL, HV.strip, win_intsE, win_boolsE, Nat.mul_one, List.cons_append, List.nil_append, List.append_nil, I, Bl, T3, List.getD_cons_zero, List.getD_cons_succ, HL.ints_strip, HL.bools_strip, trip_strip]; try rfl) (ht_ghas (nl row) p0 (by omega)) (IsBl_ex _) ?_
    rintro _ ⟨b, rfl, hb⟩ -
    rw [mem_nl] at hb
    refine ⟨(by simp only [refFreeL, HV.refFree, noRdL, HV.noRd, HL.ints_noRd, HL.bools_noRd, trip_noRd, Bool.or_true, Bool.true_or, Bool.or_false, Bool.false_or, Bool.and_true, Bool.true_and, Bool.and_self, List.isEmpty_nil, beq_self_eq_true, List.cons_append, List.nil_append]), _, _, _, _, _, (by simp only [unpack, unpackL, List.append_nil, List.nil_append, List.cons_append, stride, Nat.reduceAdd, Nat.reduceMul, Nat.zero_add]; try rfl), (by decide), (by simp only [upF, upS]; try rfl), ?_⟩
    cases b with
    | true =>
      repeat (first | refine F_mv (by first | exact eI rfl | exact eB rfl | exact eR rfl | exact eS rfl | exact eP rfl | exact eT rfl | exact eA rfl | exact eN rfl | exact eQ rfl | exact eF rfl | exact eD rfl) rfl ?_ | refine F_nil (by (try simp only [go_sem, reduceIte, Nat.reduceEqDiff, Nat.reduceAdd, Nat.reduceMul]); try rfl) ?_ | refine hx_true (by rfl) ?_ | refine hx_seq ?_ | refine hx_region ?_)
      refine hx_retF (by (try simp only [List.map_cons, List.map_nil]); repeat (first | (apply eL1; · exact (by first | exact eI rfl | exact eB rfl | exact eR rfl | exact eS rfl | exact eP rfl | exact eT rfl | exact eA rfl | exact eN rfl | exact eQ rfl | exact eF rfl | exact eD rfl)) | rfl)) (by simp only [takeDL, takeD, takeC, aget, Lk.upd, if_true, if_false, reduceIte, Nat.reduceEqDiff, List.append_nil, List.nil_append]; try rfl) (by first | trivial | (refine ⟨?_, ?_⟩ <;> trivial) | (simp only [and_true, true_and]; done)) ?_
      rw [if_pos (hb.1 rfl)]
      rfl
    | false =>
      repeat (first | refine F_nil (by (try simp only [go_sem, reduceIte, Nat.reduceEqDiff, Nat.reduceAdd, Nat.reduceMul]); try rfl) ?_ | refine hx_false (by rfl) ?_ | refine hx_seq ?_ | refine hx_region ?_ | refine hx_skip ?_ | refine F_mvnil rfl (by rfl) (by (try simp only [go_sem, reduceIte, Nat.reduceEqDiff, Nat.reduceAdd, Nat.reduceMul]); try rfl) ?_)
      refine hx_retF (by (try simp only [List.map_cons, List.map_nil]); repeat (first | (apply eL1; · exact (by first | exact eI rfl | exact eB rfl | exact eR rfl | exact eS rfl | exact eP rfl | exact eT rfl | exact eA rfl | exact eN rfl | exact eQ rfl | exact eF rfl | exact eD rfl)) | rfl)) (by simp only [takeDL, takeD, takeC, aget, Lk.upd, if_true, if_false, reduceIte, Nat.reduceEqDiff, List.append_nil, List.nil_append]; try rfl) (by first | trivial | (refine ⟨?_, ?_⟩ <;> trivial) | (simp only [and_true, true_and]; done)) ?_
      rw [if_neg (fun h => by have := hb.2 h; cases this)]
      rfl
  | succ f ih =>
    intro path hlen hpos hlt
    have hnp := nl_len path
    have hpm : ((path.length : Int) - 1) = ((path.length - 1 : Nat) : Int) := by omega
    obtain ⟨p, hp⟩ : ∃ p, lastN path = p := ⟨_, rfl⟩
    have hp' : path.getD (path.length - 1) 0 = p := hp
    have hpn : p < nd.length := by rw [← hp']; exact hlt _ (getD_mem path _ 0 (by omega))
    obtain ⟨p0, hp0⟩ : ∃ p0, path.getD 0 0 = p0 := ⟨_, rfl⟩
    obtain ⟨row, hrow⟩ : ∃ row, nd.getD p [] = row := ⟨_, rfl⟩
    have hrlt : ∀ x ∈ row, x < nd.length := by rw [← hrow]; exact g.lt p
    have hrl : row.length ≤ nd.length := by rw [← hrow]; exact g.len p
    have hnr := nl_len row
    simp only [Gs, Bl]
    rw [hnl, hbl, rnd, hp, hp0, hrow]
    refine HTM.of rfl fc38 (Nat.le_of_ble_eq_true rfl) (⟨[(0, .sl nd.length (rowsI (nd.map nl))), (1, .sl nd.length (HL.bools bad)), (2, .ref 0 [] 1 0 path.length), (3, .int .i64 n)], [(0, .osl 1 path.length (HL.ints (nl path)))], 1⟩ : St) rfl ?_
    unfold c38
    obtain ⟨H, hH⟩ : ∃ H : Nat → List Nat, (fun v => if v ≤ p0 ∨ bad.getD v false = true ∨ v ∈ path then [] else rnd nd bad f (path ++ [v])) = H := ⟨_, rfl⟩
    have hHv : ∀ v, H v = if v ≤ p0 ∨ bad.getD v false = true ∨ v ∈ path then [] else rnd nd bad f (path ++ [v]) := fun v => by rw [← hH]
    rw [hH]
    clear hH
    repeat (first | refine F_mv (by first | exact eI rfl | exact eB rfl | exact eR rfl | exact eS rfl | exact eP rfl | exact eT rfl | exact eA rfl | exact eN rfl | exact eQ rfl | exact eF rfl | exact eD rfl) rfl ?_ | refine F_iaR (by rfl) (by rfl) (by omega) (by (try simp only [go_sem, reduceIte, Nat.reduceEqDiff, Nat.reduceAdd, Nat.reduceMul]); try rfl) ?_ | refine F_ldR (by rfl) (by first | exact eO rfl | exact eW rfl) (by (try simp (disch := omega) only [go_sem, reduceIte, Nat.reduceEqDiff, Nat.reduceAdd, Nat.reduceMul, hpm, hp']); try rfl) (by (try simp only [go_sem]); first | omega | decide) (by (try simp (disch := omega) only [go_sem, hpm, hp']); try rfl) (by first | exact eI rfl | exact eB rfl | exact eR rfl | exact eS rfl | exact eP rfl | exact eT rfl | exact eA rfl | exact eN rfl | exact eQ rfl | exact eF rfl | exact eD rfl) ?_ | refine F_nil (by (try simp only [go_sem, reduceIte, Nat.reduceEqDiff, Nat.reduceAdd, Nat.reduceMul]); try rfl) ?_ | refine F_eql (by rfl) (by rfl) (by first | exact eqT (by omega) | exact eqF (by omega) | rfl) ?_ | refine F_lenR (by rfl) ?_ | refine hx_false (by rfl) ?_ | refine hx_seq ?_ | refine hx_region ?_ | refine hx_block ?_ | refine hx_skip ?_ | refine F_mvnil rfl (by rfl) (by (try simp only [go_sem, reduceIte, Nat.reduceEqDiff, Nat.reduceAdd, Nat.reduceMul]); try rfl) ?_ | refine F_sub (by rfl) (by rfl) (by (try simp (disch := omega) only [go_sem, Int.reduceAdd, Int.reduceSub, Int.reduceMul, hpm, hp']); try rfl) ?_)
    refine hx_loopG [0, 1, 2, 3, 9, 10] (fun k : Nat => k ≤ row.length ∧ ∀ q, q < k → H (row.getD q 0) = [])
      (fun k => ⟨[(0, .sl nd.length (rowsI (nd.map nl))), (1, .sl nd.length (HL.bools bad)), (2, .ref 0 [] 1 0 path.length), (3, .int .i64 n), (9, .int .i64 p), (10, .int .i64 k)], [(0, .osl 1 path.length (HL.ints (nl path)))], 1⟩)
      (fun k => row.length - k) 0 ⟨by omega, fun q hq => absurd hq (by omega)⟩ rfl ?_
    rintro k ⟨hk, hno⟩
    by_cases hkl : k < row.length
    · obtain ⟨v, hv⟩ : ∃ v, row.getD k 0 = v := ⟨_, rfl⟩
      have hvn : v < nd.length := by rw [← hv]; exact hrlt _ (getD_mem _ _ 0 hkl)
      have hstep : H v = [] → ∀ q, q < k + 1 → H (row.getD q 0) = [] := fun h q hq => by
        by_cases e : q = k
        · subst e; rw [hv, h]
        · exact hno q (by omega)
      by_cases h1 : v ≤ p0
      · repeat (first | refine F_mv (by first | exact eI rfl | exact eB rfl | exact eR rfl | exact eS rfl | exact eP rfl | exact eT rfl | exact eA rfl | exact eN rfl | exact eQ rfl | exact eF rfl | exact eD rfl) rfl ?_ | refine F_no (by rfl) (by rfl) ?_ | refine F_iaS (by rfl) (by rfl) (by omega) (by (try simp only [go_sem, reduceIte, Nat.reduceEqDiff, Nat.reduceAdd, Nat.reduceMul]); try rfl) ?_ | refine F_iaR (by rfl) (by rfl) (by omega) (by (try simp only [go_sem, reduceIte, Nat.reduceEqDiff, Nat.reduceAdd, Nat.reduceMul]); try rfl) ?_ | refine F_ldP (by rfl) (by (try simp only [go_sem]); first | omega | decide) (by (try simp (disch := omega) only [go_sem, nl_getD, hrow, hv, hp0]); try rfl) ?_ | refine F_ldR (by rfl) (by first | exact eO rfl | exact eW rfl) (by (try simp (disch := omega) only [go_sem, reduceIte, Nat.reduceEqDiff, Nat.reduceAdd, Nat.reduceMul, nl_getD, hrow, hv, hp0]); try rfl) (by (try simp only [go_sem]); first | omega | decide) (by (try simp (disch := omega) only [go_sem, nl_getD, hrow, hv, hp0]); try rfl) (by first | exact eI rfl | exact eB rfl | exact eR rfl | exact eS rfl | exact eP rfl | exact eT rfl | exact eA rfl | exact eN rfl | exact eQ rfl | exact eF rfl | exact eD rfl) ?_ | refine F_nil (by (try simp only [go_sem, reduceIte, Nat.reduceEqDiff, Nat.reduceAdd, Nat.reduceMul]); try rfl) ?_ | refine F_lss (by rfl) (by rfl) (by first | exact ltT (by omega) | exact ltF (by omega) | rfl) ?_ | refine F_pickT (by rfl) (by first | exact eI rfl | exact eB rfl | exact eR rfl | exact eS rfl | exact eP rfl | exact eT rfl | exact eA rfl | exact eN rfl | exact eQ rfl | exact eF rfl | exact eD rfl) ?_ | refine F_add (by rfl) (by rfl) (by (try simp (disch := omega) only [go_sem, Int.reduceAdd, Int.reduceSub, Int.reduceMul, nl_getD, hrow, hv, hp0]); try rfl) ?_ | refine F_lenS (by rfl) ?_ | refine hx_exitS (by rfl) ?_ | refine hx_true (by rfl) ?_ | refine hx_seq ?_ | refine hx_region ?_ | refine hx_block ?_ | refine hx_skip ?_ | refine F_leq (by rfl) (by rfl) (by first | exact leT (by omega) | exact leF (by omega) | rfl) ?_)
        exact hx_lG [0, 1, 2, 3, 9, 10] (k + 1) ⟨hkl, hstep (by rw [hHv, if_pos (.inl h1)])⟩ (by omega) rfl
      · cases hb : bad.getD v false with
        | true =>
          repeat (first | refine F_mv (by first | exact eI rfl | exact eB rfl | exact eR rfl | exact eS rfl | exact eP rfl | exact eT rfl | exact eA rfl | exact eN rfl | exact eQ rfl | exact eF rfl | exact eD rfl) rfl ?_ | refine F_yes (by rfl) (by rfl) ?_ | refine F_no (by rfl) (by rfl) ?_ | refine F_iaS (by rfl) (by rfl) (by omega) (by (try simp only [go_sem, reduceIte, Nat.reduceEqDiff, Nat.reduceAdd, Nat.reduceMul]); try rfl) ?_ | refine F_iaR (by rfl) (by rfl) (by omega) (by (try simp only [go_sem, reduceIte, Nat.reduceEqDiff, Nat.reduceAdd, Nat.reduceMul]); try rfl) ?_ | refine F_ldP (by rfl) (by (try simp only [go_sem]); first | omega | decide) (by (try simp (disch := omega) only [go_sem, nl_getD, hrow, hv, hp0, hb]); try rfl) ?_ | refine F_ldR (by rfl) (by first | exact eO rfl | exact eW rfl) (by (try simp (disch := omega) only [go_sem, reduceIte, Nat.reduceEqDiff, Nat.reduceAdd, Nat.reduceMul, nl_getD, hrow, hv, hp0, hb]); try rfl) (by (try simp only [go_sem]); first | omega | decide) (by (try simp (disch := omega) only [go_sem, nl_getD, hrow, hv, hp0, hb]); try rfl) (by first | exact eI rfl | exact eB rfl | exact eR rfl | exact eS rfl | exact eP rfl | exact eT rfl | exact eA rfl | exact eN rfl | exact eQ rfl | exact eF rfl | exact eD rfl) ?_ | refine F_nil (by (try simp only [go_sem, reduceIte, Nat.reduceEqDiff, Nat.reduceAdd, Nat.reduceMul]); try rfl) ?_ | refine F_lss (by rfl) (by rfl) (by first | exact ltT (by omega) | exact ltF (by omega) | rfl) ?_ | refine F_pickT (by rfl) (by first | exact eI rfl | exact eB rfl | exact eR rfl | exact eS rfl | exact eP rfl | exact eT rfl | exact eA rfl | exact eN rfl | exact eQ rfl | exact eF rfl | exact eD rfl) ?_ | refine F_pickF (by rfl) (by first | exact eI rfl | exact eB rfl | exact eR rfl | exact eS rfl | exact eP rfl | exact eT rfl | exact eA rfl | exact eN rfl | exact eQ rfl | exact eF rfl | exact eD rfl) ?_ | refine F_add (by rfl) (by rfl) (by (try simp (disch := omega) only [go_sem, Int.reduceAdd, Int.reduceSub, Int.reduceMul, nl_getD, hrow, hv, hp0, hb]); try rfl) ?_ | refine F_lenS (by rfl) ?_ | refine hx_exitS (by rfl) ?_ | refine hx_true (by rfl) ?_ | refine hx_seq ?_ | refine hx_region ?_ | refine hx_block ?_ | refine hx_skip ?_ | refine F_leq (by rfl) (by rfl) (by first | exact leT (by omega) | exact leF (by omega) | rfl) ?_)
          exact hx_lG [0, 1, 2, 3, 9, 10] (k + 1) ⟨hkl, hstep (by rw [hHv, if_pos (.inr (.inl hb))])⟩ (by omega) rfl
        | false =>
          repeat (first | refine F_mv (by first | exact eI rfl | exact eB rfl | exact eR rfl | exact eS rfl | exact eP rfl | exact eT rfl | exact eA rfl | exact eN rfl | exact eQ rfl | exact eF rfl | exact eD rfl) rfl ?_ | refine F_yes (by rfl) (by rfl) ?_ | refine F_iaS (by rfl) (by rfl) (by omega) (by (try simp only [go_sem, reduceIte, Nat.reduceEqDiff, Nat.reduceAdd, Nat.reduceMul]); try rfl) ?_ | refine F_iaR (by rfl) (by rfl) (by omega) (by (try simp only [go_sem, reduceIte, Nat.reduceEqDiff, Nat.reduceAdd, Nat.reduceMul]); try rfl) ?_ | refine F_ldP (by rfl) (by (try simp only [go_sem]); first | omega | decide) (by (try simp (disch := omega) only [go_sem, nl_getD, hrow, hv, hp0, hb]); try rfl) ?_ | refine F_ldR (by rfl) (by first | exact eO rfl | exact eW rfl) (by (try simp (disch := omega) only [go_sem, reduceIte, Nat.reduceEqDiff, Nat.reduceAdd, Nat.reduceMul, nl_getD, hrow, hv, hp0, hb]); try rfl) (by (try simp only [go_sem]); first | omega | decide) (by (try simp (disch := omega) only [go_sem, nl_getD, hrow, hv, hp0, hb]); try rfl) (by first | exact eI rfl | exact eB rfl | exact eR rfl | exact eS rfl | exact eP rfl | exact eT rfl | exact eA rfl | exact eN rfl | exact eQ rfl | exact eF rfl | exact eD rfl) ?_ | refine F_nil (by (try simp only [go_sem, reduceIte, Nat.reduceEqDiff, Nat.reduceAdd, Nat.reduceMul]); try rfl) ?_ | refine F_lss (by rfl) (by rfl) (by first | exact ltT (by omega) | exact ltF (by omega) | rfl) ?_ | refine F_pickF (by rfl) (by first | exact eI rfl | exact eB rfl | exact eR rfl | exact eS rfl | exact eP rfl | exact eT rfl | exact eA rfl | exact eN rfl | exact eQ rfl | exact eF rfl | exact eD rfl) ?_ | refine F_lenS (by rfl) ?_ | refine hx_true (by rfl) ?_ | refine hx_seq ?_ | refine hx_region ?_ | refine hx_block ?_ | refine hx_skip ?_ | refine F_leq (by rfl) (by rfl) (by first | exact leT (by omega) | exact leF (by omega) | rfl) ?_)
          refine F_call (by (try simp only [List.map_cons, List.map_nil]); repeat (first | (apply eL1; · exact (by first | exact eI rfl | exact eB rfl | exact eR rfl | exact eS rfl | exact eP rfl | exact eT rfl | exact eA rfl | exact eN rfl | exact eQ rfl | exact eF rfl | exact eD rfl)) | rfl)) (by simp (disch := omega) only [thawL, hnp, HV.thaw, allIds, aget, nget, if_true, if_false, reduceIte, Nat.reduceEqDiff, stripL, HV.strip, win_intsE, win_boolsE, Nat.mul_one, List.cons_append, List.nil_append, List.append_nil, I, Bl, T3, List.getD_cons_zero, List.getD_cons_succ, HL.ints_strip, HL.bools_strip, trip_strip]; try rfl) (ht_ghas (nl path) v (by omega)) ?_
          rintro _ ⟨b, rfl, hb2⟩
          rw [mem_nl] at hb2
          refine ⟨(by simp only [refFreeL, HV.refFree, noRdL, HV.noRd, HL.ints_noRd, HL.bools_noRd, trip_noRd, Bool.or_true, Bool.true_or, Bool.or_false, Bool.false_or, Bool.and_true, Bool.true_and, Bool.and_self, List.isEmpty_nil, beq_self_eq_true, List.cons_append, List.nil_append]), _, _, _, _, _, (by simp only [unpack, unpackL, List.append_nil, List.nil_append, List.cons_append, stride, Nat.reduceAdd, Nat.reduceMul, Nat.zero_add]; try rfl), (by decide), (by simp only [upF, upS]; try rfl), ?_⟩
          cases b with
          | true =>
            have hm := hb2.1 rfl
            repeat (first | refine F_mv (by first | exact eI rfl | exact eB rfl | exact eR rfl | exact eS rfl | exact eP rfl | exact eT rfl | exact eA rfl | exact eN rfl | exact eQ rfl | exact eF rfl | exact eD rfl) rfl ?_ | refine F_nil (by (try simp only [go_sem, reduceIte, Nat.reduceEqDiff, Nat.reduceAdd, Nat.reduceMul]); try rfl) ?_ | refine F_pickF (by rfl) (by first | exact eI rfl | exact eB rfl | exact eR rfl | exact eS rfl | exact eP rfl | exact eT rfl | exact eA rfl | exact eN rfl | exact eQ rfl | exact eF rfl | exact eD rfl) ?_ | refine F_add (by rfl) (by rfl) (by (try simp (disch := omega) only [go_sem, Int.reduceAdd, Int.reduceSub, Int.reduceMul]); try rfl) ?_ | refine hx_exitS (by rfl) ?_ | refine hx_true (by rfl) ?_ | refine hx_region ?_)
            exact hx_lG [0, 1, 2, 3, 9, 10] (k + 1) ⟨hkl, hstep (by rw [hHv, if_pos (.inr (.inr hm))])⟩ (by omega) rfl
          | false =>
            have hm : ¬ v ∈ path := fun h => by have := hb2.2 h; cases this
            have hHe : H v = rnd nd bad f (path ++ [v]) := by rw [hHv, if_neg (fun h => by rcases h with h | h | h; exact h1 h; rw [hb] at h; cases h; exact hm h)]
            have hpv : (path ++ [v]).length = path.length + 1 := by simp
            have hnpv := nl_len (path ++ [v])
            obtain ⟨out, hout⟩ : ∃ out, rnd nd bad f (path ++ [v]) = out := ⟨_, rfl⟩
            have hih := ih (path ++ [v]) (by omega) (by omega) (fun x hx => by rcases List.mem_append.1 hx with h | h; exact hlt x h; simp at h; subst h; exact hvn)
            rw [hout] at hih hHe
            rw [hpv] at hih
            simp only [Gs, Bl] at hih
            rw [hnl, hbl] at hih
            have hfin : out ≠ [] → firstOf H row = out := fun h => by
              rw [firstOf_at (e := k) hkl hno (by rw [hv, hHe]; exact h), hv, hHe]
            repeat (first | refine F_nil (by (try simp only [go_sem, reduceIte, Nat.reduceEqDiff, Nat.reduceAdd, Nat.reduceMul]); try rfl) ?_ | refine F_pickF (by rfl) (by first | exact eI rfl | exact eB rfl | exact eR rfl | exact eS rfl | exact eP rfl | exact eT rfl | exact eA rfl | exact eN rfl | exact eQ rfl | exact eF rfl | exact eD rfl) ?_)
            refine hx_false (by rfl) ?_
            refine hx_skip ?_
            refine hx_seq ?_
            refine hx_regionW 9 (by rfl) ?_
            simp only [List.take_succ_cons, List.take_zero, List.drop_succ_cons, List.drop_zero]
            repeat (first | refine F_mv (by first | exact eI rfl | exact eB rfl | exact eR rfl | exact eS rfl | exact eP rfl | exact eT rfl | exact eA rfl | exact eN rfl | exact eQ rfl | exact eF rfl | exact eD rfl) rfl ?_ | refine F_nil (by (try simp only [go_sem, reduceIte, Nat.reduceEqDiff, Nat.reduceAdd, Nat.reduceMul]); try rfl) ?_ | refine F_bsl (by (try simp only [go_sem, reduceIte, Nat.reduceEqDiff, Nat.reduceAdd, Nat.reduceMul]); try rfl) (by (try simp only [List.map_cons, List.map_nil]); repeat (first | (apply eL1; · exact (by first | exact eI rfl | exact eB rfl | exact eR rfl | exact eS rfl | exact eP rfl | exact eT rfl | exact eA rfl | exact eN rfl | exact eQ rfl | exact eF rfl | exact eD rfl)) | rfl)) (by (try simp only [go_sem]); try rfl) (by first | rfl | exact HL.ints_flat _ | exact HL.bools_flat _) (by rfl) (by rfl) ?_ | refine F_appR (by (try simp only [go_sem, reduceIte, Nat.reduceEqDiff, Nat.reduceAdd, Nat.reduceMul]); try rfl) (by rfl) (by first | exact eI rfl | exact eB rfl | exact eR rfl | exact eS rfl | exact eP rfl | exact eT rfl | exact eA rfl | exact eN rfl | exact eQ rfl | exact eF rfl | exact eD rfl) (by (try simp (disch := omega) only [aget, go_sem, reduceIte, Nat.reduceEqDiff, Nat.reduceAdd, Nat.reduceMul]); try rfl) (by (try simp (disch := omega) only [go_sem, reduceIte, Nat.reduceEqDiff, Nat.reduceAdd, Nat.reduceMul]); try omega) (by first | exact eO rfl | exact eW rfl) (by (try simp only [go_sem]); try rfl) (by (try simp only [go_sem, reduceIte, Nat.reduceEqDiff, Nat.reduceAdd, Nat.reduceMul]); try rfl) (by omega) (by unfold maxLen; omega) (by (try simp only [go_sem]); first | omega | decide) (by (try simp (disch := omega) only [go_sem, reduceIte, Nat.reduceEqDiff, Nat.reduceAdd, Nat.reduceMul]); try rfl) (by (try simp only [go_sem]); try rfl) ?_)
            refine hx_dropN [0, 1, 2, 3, 9, 10, 64, 65, 71, 72] (⟨[(0, .sl nd.length (rowsI (nd.map nl))), (1, .sl nd.length (HL.bools bad)), (2, .ref 0 [] 1 0 path.length), (3, .int .i64 n), (9, .int .i64 p), (10, .int .i64 k), (64, .sl nd.length (rowsI (nd.map nl))), (65, .sl nd.length (HL.bools bad)), (71, .ref 1 [] 1 0 (path.length + 1)), (72, .int .i64 n)], [(0, .osl 1 path.length (HL.ints (nl path))), (1, .osl 1 (path.length + 1) (HL.ints (nl (path ++ [v]))))], 2⟩ : St) rfl ?_
            refine hx_callG (by (try simp only [List.map_cons, List.map_nil]); repeat (first | (apply eL1; · exact (by first | exact eI rfl | exact eB rfl | exact eR rfl | exact eS rfl | exact eP rfl | exact eT rfl | exact eA rfl | exact eN rfl | exact eQ rfl | exact eF rfl | exact eD rfl)) | rfl)) (by simp only [takeDL, takeD, takeC, aget, Lk.upd, if_true, if_false, reduceIte, Nat.reduceEqDiff, List.append_nil, List.nil_append, List.cons_append]; try rfl) (by first | trivial | (refine ⟨?_, ?_⟩ <;> trivial) | (simp only [and_true, true_and]; done)) (hih) (by rfl) ?_
            rintro _ rfl
            refine ⟨_, _, _, _, _, (by simp only [unpack, unpackL, List.append_nil, List.nil_append, List.cons_append, stride, Nat.reduceAdd, Nat.reduceMul, Nat.zero_add]; try rfl), (by simp only [upF, upS, List.append_nil, List.nil_append, List.cons_append]; try rfl), ?_⟩
            by_cases h0 : out = []
            · have hol : out.length = 0 := by rw [h0]; rfl
              repeat (first | refine F_mv (by first | exact eI rfl | exact eB rfl | exact eR rfl | exact eS rfl | exact eP rfl | exact eT rfl | exact eA rfl | exact eN rfl | exact eQ rfl | exact eF rfl | exact eD rfl) rfl ?_ | refine F_nil (by (try simp only [go_sem, reduceIte, Nat.reduceEqDiff, Nat.reduceAdd, Nat.reduceMul]); try rfl) ?_ | refine F_add (by rfl) (by rfl) (by (try simp (disch := omega) only [go_sem, Int.reduceAdd, Int.reduceSub, Int.reduceMul]); try rfl) ?_ | refine F_lenR (by rfl) ?_ | refine hx_false (by rfl) ?_ | refine hx_seq ?_ | refine hx_region ?_ | refine hx_b ?_ | refine hx_skip ?_ | refine F_gtr (by rfl) (by rfl) (by first | exact ltT (by omega) | exact ltF (by omega) | rfl) ?_)
              exact hx_lG [0, 1, 2, 3, 9, 10] (k + 1) ⟨hkl, hstep (by rw [hHe, h0])⟩ (by omega) rfl
            · have hol : 0 < out.length := List.length_pos_iff.2 h0
              repeat (first | refine F_mv (by first | exact eI rfl | exact eB rfl | exact eR rfl | exact eS rfl | exact eP rfl | exact eT rfl | exact eA rfl | exact eN rfl | exact eQ rfl | exact eF rfl | exact eD rfl) rfl ?_ | refine F_nil (by (try simp only [go_sem, reduceIte, Nat.reduceEqDiff, Nat.reduceAdd, Nat.reduceMul]); try rfl) ?_ | refine F_lenR (by rfl) ?_ | refine hx_true (by rfl) ?_ | refine hx_seq ?_ | refine hx_region ?_ | refine F_gtr (by rfl) (by rfl) (by first | exact ltT (by omega) | exact ltF (by omega) | rfl) ?_)
              refine hx_retF (by (try simp only [List.map_cons, List.map_nil]); repeat (first | (apply eL1; · exact (by first | exact eI rfl | exact eB rfl | exact eR rfl | exact eS rfl | exact eP rfl | exact eT rfl | exact eA rfl | exact eN rfl | exact eQ rfl | exact eF rfl | exact eD rfl)) | rfl)) (by simp only [takeDL, takeD, takeC, aget, Lk.upd, if_true, if_false, reduceIte, Nat.reduceEqDiff, List.append_nil, List.nil_append]; try rfl) (by first | trivial | (refine ⟨?_, ?_⟩ <;> trivial) | (simp only [and_true, true_and]; done)) ?_
              rw [hfin h0]
              rfl
    · obtain rfl : k = row.length := by omega
      repeat (first | refine F_mv (by first | exact eI rfl | exact eB rfl | exact eR rfl | exact eS rfl | exact eP rfl | exact eT rfl | exact eA rfl | exact eN rfl | exact eQ rfl | exact eF rfl | exact eD rfl) rfl ?_ | refine F_iaS (by rfl) (by rfl) (by omega) (by (try simp only [go_sem, reduceIte, Nat.reduceEqDiff, Nat.reduceAdd, Nat.reduceMul]); try rfl) ?_ | refine F_ldP (by rfl) (by (try simp only [go_sem]); first | omega | decide) (by (try simp (disch := omega) only [go_sem, nl_getD, hrow]); try rfl) ?_ | refine F_nil (by (try simp only [go_sem, reduceIte, Nat.reduceEqDiff, Nat.reduceAdd, Nat.reduceMul]); try rfl) ?_ | refine F_lss (by rfl) (by rfl) (by first | exact ltT (by omega) | exact ltF (by omega) | rfl) ?_ | refine F_lenS (by rfl) ?_ | refine hx_exitS (by rfl) ?_ | refine hx_false (by rfl) ?_ | refine hx_seq ?_ | refine hx_region ?_ | refine F_mvnil rfl (by rfl) (by (try simp only [go_sem, reduceIte, Nat.reduceEqDiff, Nat.reduceAdd, Nat.reduceMul]); try rfl) ?_)
      refine hx_retF (by (try simp only [List.map_cons, List.map_nil]); repeat (first | (apply eL1; · exact (by first | exact eI rfl | exact eB rfl | exact eR rfl | exact eS rfl | exact eP rfl | exact eT rfl | exact eA rfl | exact eN rfl | exact eQ rfl | exact eF rfl | exact eD rfl)) | rfl)) (by simp only [takeDL, takeD, takeC, aget, Lk.upd, if_true, if_false, reduceIte, Nat.reduceEqDiff, List.append_nil, List.nil_append]; try rfl) (by first | trivial | (refine ⟨?_, ?_⟩ <;> trivial) | (simp only [and_true, true_and]; done)) ?_
      rw [firstOf_none fun x hx => by obtain ⟨q, h1, h2⟩ := mem_getD 0 hx; rw [← h2]; exact hno q h1]
      rfl

end Go.Proofs.Ytjlidhijnohkbaa
