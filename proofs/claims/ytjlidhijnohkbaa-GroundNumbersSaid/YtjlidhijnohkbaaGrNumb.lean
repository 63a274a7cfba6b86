/-
  OWN WORK. The law GroundNumbers in the value language.
-/
import Derived.Test.YtjlidhijnohkbaaCodesGroundNumbers
import Derived.Test.YtjlidhijnohkbaaGrCir
import Derived.Test.YtjlidhijnohkbaaGrLives
set_option linter.unusedSimpArgs false
set_option linter.unusedVariables false
namespace Go.Proofs.Ytjlidhijnohkbaa
open Go.RowKit Go.HL

/-- A list of a known length. -/
def IsL (L : Nat) (r : HV) : Prop := ∃ l : List Nat, r = .osl 1 L (HL.ints (nl l)) ∧ l.length = L
theorem IsL_ex (L : Nat) : ∃ r, IsL L r ∧ r.deep = [] :=
  ⟨_, ⟨List.replicate L 0, rfl, by simp⟩, by unfold HV.deep; exact ints_deep _⟩
/-- What the program's Witness returns. -/
def WitRes (nd : List (List Nat)) (bad : List Bool) (rank : List Int) (i : Nat) (path : List Nat) : Prop :=
  ∃ ds round total, IsTable nd bad ds round ∧ Pth nd bad ds round rank i total path ∧ (path.length : Int) = total + 1
theorem WitRes.same {nd : List (List Nat)} {bad : List Bool} {rank : List Int} {i : Nat} {path path' : List Nat} (a : WitRes nd bad rank i path) (b : WitRes nd bad rank i path') : path.length = path'.length := by
  obtain ⟨ds, round, total, t, p, h⟩ := a
  obtain ⟨ds', round', total', t', p', h'⟩ := b
  obtain ⟨rfl, rfl⟩ := t.unique t'
  have := p.start.unique p'.start
  omega
theorem wit_len {nd nd' : List (List Nat)} {bad bad' : List Bool} {rank rank' : List Int} {i k : Nat} (g : Gr nd bad) (g' : Gr nd' bad') (s : IsRev nd bad nd' bad') (hi : i < nd.length) (hk : k = nd.length - 1 - i) :
    ∃ L, (∀ path, WitRes nd bad rank i path → path.length = L) ∧ (∀ path, WitRes nd' bad' rank' k path → path.length = L) := by
  subst hk
  have both : ∀ path path', WitRes nd bad rank i path → WitRes nd' bad' rank' (nd.length - 1 - i) path' → path.length = path'.length := fun path path' ⟨_, _, _, t, p, h⟩ ⟨_, _, _, t', p', h'⟩ => s.wits g g' hi t t' p p' h h'
  by_cases ha : ∃ path, WitRes nd bad rank i path
  · obtain ⟨path, ha⟩ := ha
    exact ⟨path.length, fun p hp => hp.same ha, fun p hp => (both _ _ ha hp).symm⟩
  · by_cases hb : ∃ path, WitRes nd' bad' rank' (nd.length - 1 - i) path
    · obtain ⟨path, hb⟩ := hb
      exact ⟨path.length, fun p hp => absurd ⟨p, hp⟩ ha, fun p hp => hp.same hb⟩
    · exact ⟨0, fun p hp => absurd ⟨p, hp⟩ ha, fun p hp => absurd ⟨p, hp⟩ hb⟩
theorem ht_witlen (nd : List (List Nat)) (bad : List Bool) (rank : List Int) (i L : Nat) (g : Gr nd bad) (hR : IsRank nd bad rank) (hi : i < nd.length) (hir : rank.getD i 0 < 0) (hL : ∀ path, WitRes nd bad rank i path → path.length = L) : HT Try.prog 24 [Gs (nd.map nl), Bl bad, .int .i64 i] (IsL L) :=
  (ht_witness nd bad rank i g hR hi hir).mono fun _ ⟨_, _, path, _, hr, t, p, h⟩ => by
    have := hL path ⟨_, _, _, t, p, h⟩
    subst this
    exact ⟨path, hr, rfl⟩

set_option maxHeartbeats 8000000 in
set_option maxRecDepth 100000 in
theorem ht_lawNumbers (l : List Int) (n : Int) (hl : l.length ≤ 9223372036854775807) :
    HT Try.prog 10 [I l, .int .i64 n] (fun r => r = .bool true) := by
  refine HT.of rfl fc10 (Nat.le_of_ble_eq_true rfl) ?_
  unfold c10
  simp only [I, argSlots, Nat.reduceAdd]
  repeat (first | refine F_mv (by first | exact eI rfl | exact eB rfl | exact eR rfl | exact eS rfl | exact eP rfl | exact eT rfl | exact eA rfl | exact eN rfl | exact eQ rfl | exact eF rfl | exact eD rfl) rfl ?_ | refine F_nil (by (try simp only [go_sem, reduceIte, Nat.reduceEqDiff, Nat.reduceAdd, Nat.reduceMul]); try rfl) ?_ | refine hx_seq ?_ | refine hx_region ?_)
  refine F_call (by (try simp only [List.map_cons, List.map_nil]); repeat (first | (apply eL1; · exact (by first | exact eI rfl | exact eB rfl | exact eR rfl | exact eS rfl | exact eP rfl | exact eT rfl | exact eA rfl | exact eN rfl | exact eQ rfl | exact eF rfl | exact eD rfl)) | rfl)) (by simp (disch := omega) only [thawL, HV.thaw, allIds, aget, nget, if_true, if_false, reduceIte, Nat.reduceEqDiff, stripL, HV.strip, win_intsE, win_boolsE, Nat.mul_one, List.cons_append, List.nil_append, List.append_nil, I, Bl, T3, List.getD_cons_zero, List.getD_cons_succ, HL.ints_strip, HL.bools_strip, trip_strip]; try rfl) (ht_gmod n 40 (by omega) (by omega)) ?_
  rintro _ rfl
  have e0 := Int.emod_nonneg n (show (40 : Int) ≠ 0 by omega)
  have e1 := Int.emod_lt_of_pos n (show (0 : Int) < 40 by omega)
  obtain ⟨m, hm⟩ : ∃ m : Nat, (m : Int) = n % 40 := ⟨(n % 40).toNat, by omega⟩
  rw [← hm] at e0 e1 ⊢
  refine ⟨(by simp only [refFreeL, HV.refFree, noRdL, HV.noRd, HL.ints_noRd, HL.bools_noRd, trip_noRd, Bool.or_true, Bool.true_or, Bool.or_false, Bool.false_or, Bool.and_true, Bool.true_and, Bool.and_self, List.isEmpty_nil, beq_self_eq_true, List.cons_append, List.nil_append]), _, _, _, _, _, (by simp only [unpack, unpackL, List.append_nil, List.nil_append, List.cons_append, stride, Nat.reduceAdd, Nat.reduceMul, Nat.zero_add]; try rfl), (by decide), (by simp only [upF, upS]; try rfl), ?_⟩
  clear hm
  skip
  refine F_call (by (try simp only [List.map_cons, List.map_nil]); repeat (first | (apply eL1; · exact (by first | exact eI rfl | exact eB rfl | exact eR rfl | exact eS rfl | exact eP rfl | exact eT rfl | exact eA rfl | exact eN rfl | exact eQ rfl | exact eF rfl | exact eD rfl)) | rfl)) (by simp (disch := omega) only [thawL, HV.thaw, allIds, aget, nget, if_true, if_false, reduceIte, Nat.reduceEqDiff, stripL, HV.strip, win_intsE, win_boolsE, Nat.mul_one, List.cons_append, List.nil_append, List.append_nil, I, Bl, T3, List.getD_cons_zero, List.getD_cons_succ, HL.ints_strip, HL.bools_strip, trip_strip]; try rfl) (ht_gbig l m (by omega) hl) ?_
  rintro _ ⟨nd, bad, rfl, hnm, g, hd3⟩
  refine ⟨(by simp only [refFreeL, HV.refFree, noRdL, HV.noRd, HL.ints_noRd, HL.bools_noRd, trip_noRd, Bool.or_true, Bool.true_or, Bool.or_false, Bool.false_or, Bool.and_true, Bool.true_and, Bool.and_self, List.isEmpty_nil, beq_self_eq_true, List.cons_append, List.nil_append]), _, _, _, _, _, (by simp only [unpack, unpackL, List.append_nil, List.nil_append, List.cons_append, stride, Nat.reduceAdd, Nat.reduceMul, Nat.zero_add]; try rfl), (by decide), (by simp only [upF, upS]; try rfl), ?_⟩
  subst hnm
  have hbl := g.bads
  have hsz := g.size
  have hnl : (nd.map nl).length = nd.length := by simp
  have hE : stripL (win (rowsO nd) 0 (nd.length * 1)) = rowsI (nd.map nl) := by rw [rowsO_win _ (by omega), rowsO_strip]
  have hB : stripL (win (HL.bools bad) 0 (nd.length * 1)) = HL.bools bad := by rw [win_boolsE _ (by omega), HL.bools_strip]
  repeat (first | refine F_mv (by first | exact eI rfl | exact eB rfl | exact eR rfl | exact eS rfl | exact eP rfl | exact eT rfl | exact eA rfl | exact eN rfl | exact eQ rfl | exact eF rfl | exact eD rfl) rfl ?_ | refine F_nil (by (try simp only [go_sem, reduceIte, Nat.reduceEqDiff, Nat.reduceAdd, Nat.reduceMul]); try rfl) ?_ | refine F_ext (by rfl) (by (try simp only [go_sem]); first | omega | decide) (by first | exact eI rfl | exact eB rfl | exact eR rfl | exact eS rfl | exact eP rfl | exact eT rfl | exact eA rfl | exact eN rfl | exact eQ rfl | exact eF rfl | exact eD rfl) ?_)
  refine hx_dropN [5, 6] (⟨[(5, .ref 0 [] 1 0 nd.length), (6, .ref 1 [] 1 0 nd.length)], [(0, .osl 1 nd.length (rowsO nd)), (1, .osl 1 nd.length (HL.bools bad))], 2⟩ : St) rfl ?_
  refine hx_freezeN 0 [5, 6] _ (congrArg (fun c : List HV => (⟨[(5, .sl nd.length c), (6, .ref 0 [] 1 0 nd.length)], [(0, .osl 1 nd.length (HL.bools bad))], 1⟩ : St)) hE) ?_
  refine hx_freezeN 0 [5, 6] _ (congrArg (fun c : List HV => (⟨[(5, .sl nd.length (rowsI (nd.map nl))), (6, .sl nd.length c)], [], 0⟩ : St)) hB) ?_
  repeat (first | refine F_mv (by first | exact eI rfl | exact eB rfl | exact eR rfl | exact eS rfl | exact eP rfl | exact eT rfl | exact eA rfl | exact eN rfl | exact eQ rfl | exact eF rfl | exact eD rfl) rfl ?_ | refine F_nil (by (try simp only [go_sem, reduceIte, Nat.reduceEqDiff, Nat.reduceAdd, Nat.reduceMul]); try rfl) ?_ | refine hx_seq ?_ | refine hx_region ?_ | refine hx_block ?_ | refine F_mvnil rfl (by rfl) (by (try simp only [go_sem, reduceIte, Nat.reduceEqDiff, Nat.reduceAdd, Nat.reduceMul]); try rfl) ?_)
  refine hx_loopG [5, 6, 7, 8, 9] (fun s : Nat × List (List Nat) × List Bool => s.1 ≤ nd.length ∧ s.2.1 = turnG nd s.1 ∧ s.2.2 = turnB nd bad s.1)
    (fun s => ⟨[(5, .sl nd.length (rowsI (nd.map nl))), (6, .sl nd.length (HL.bools bad)), (7, .ref 0 [] 1 0 s.1), (8, .ref 1 [] 1 0 s.1), (9, .int .i64 s.1)], [(0, .osl 1 s.1 (rowsO s.2.1)), (1, .osl 1 s.1 (HL.bools s.2.2))], 2⟩)
    (fun s => nd.length - s.1) (0, [], []) ⟨by simp, rfl, rfl⟩ rfl ?_
  rintro ⟨i, G, B⟩ ⟨hi, hG, hBB⟩
  simp only at hi hG hBB ⊢
  have hGl : G.length = i := by rw [hG, turnG_len]
  have hBl : B.length = i := by rw [hBB, turnB_len]
  by_cases hin : i < nd.length
  · obtain ⟨k, hk⟩ : ∃ k : Nat, (k : Int) = (nd.length : Int) - 1 - i := ⟨nd.length - 1 - i, by omega⟩
    have hkn : k < nd.length := by omega
    have hk' : nd.length - 1 - i = k := by omega
    repeat (first | refine F_mv (by first | exact eI rfl | exact eB rfl | exact eR rfl | exact eS rfl | exact eP rfl | exact eT rfl | exact eA rfl | exact eN rfl | exact eQ rfl | exact eF rfl | exact eD rfl) rfl ?_ | refine F_nil (by (try simp only [go_sem, reduceIte, Nat.reduceEqDiff, Nat.reduceAdd, Nat.reduceMul]); try rfl) ?_ | refine F_lss (by rfl) (by rfl) (by first | exact ltT (by omega) | exact ltF (by omega) | rfl) ?_ | refine F_lenS (by rfl) ?_ | refine hx_true (by rfl) ?_ | refine hx_seq ?_ | refine hx_region ?_ | refine hx_block ?_ | refine hx_skip ?_ | refine F_mvnil rfl (by rfl) (by (try simp only [go_sem, reduceIte, Nat.reduceEqDiff, Nat.reduceAdd, Nat.reduceMul]); try rfl) ?_ | refine F_sub (by rfl) (by rfl) (by (try simp (disch := omega) only [go_sem, Int.reduceAdd, Int.reduceSub, Int.reduceMul, ← hk]); try rfl) ?_)
    obtain ⟨row, hrow⟩ : ∃ row, nd.getD k [] = row := ⟨_, rfl⟩
    have hrlt : ∀ x ∈ row, x < nd.length := by rw [← hrow]; exact g.lt k
    have hrl : row.length ≤ 3 := by rw [← hrow]; exact hd3 k
    have hnr := nl_len row
    refine hx_loopG [5, 6, 7, 8, 9, 10, 11, 12] (fun s : Nat × List Nat => s.1 ≤ row.length ∧ s.2 = turnRow nd.length (row.take s.1))
      (fun s => ⟨[(5, .sl nd.length (rowsI (nd.map nl))), (6, .sl nd.length (HL.bools bad)), (7, .ref 0 [] 1 0 i), (8, .ref 1 [] 1 0 i), (9, .int .i64 i), (10, .int .i64 k), (11, .ref 2 [] 1 0 s.2.length), (12, .int .i64 s.1)], [(0, .osl 1 i (rowsO G)), (1, .osl 1 i (HL.bools B)), (2, .osl 1 s.2.length (HL.ints (nl s.2)))], 3⟩)
      (fun s => row.length - s.1) (0, []) ⟨by simp, rfl⟩ rfl ?_
    rintro ⟨j, x⟩ ⟨hj, hx⟩
    simp only at hj hx ⊢
    have hxl := nl_len x
    have hxs : x.Pairwise (· < ·) := by rw [hx]; exact turnRow_sorted _ _
    have hx3 : x.length ≤ 3 := by
      rw [hx]
      have := turnRow_len nd.length (row.take j)
      rw [List.length_take] at this
      omega
    by_cases hjl : j < row.length
    · obtain ⟨v, hv⟩ : ∃ v, row.getD j 0 = v := ⟨_, rfl⟩
      have hvn : v < nd.length := by rw [← hv]; exact hrlt _ (getD_mem _ _ 0 hjl)
      obtain ⟨u, hu⟩ : ∃ u : Nat, (u : Int) = (nd.length : Int) - 1 - v := ⟨nd.length - 1 - v, by omega⟩
      have hu' : nd.length - 1 - v = u := by omega
      have hx2 : putN x u = turnRow nd.length (row.take (j + 1)) := by
        rw [take_succ_getD row j 0 hjl, turnRow_snoc, ← hx, hv, hu']
      repeat (first | refine F_mv (by first | exact eI rfl | exact eB rfl | exact eR rfl | exact eS rfl | exact eP rfl | exact eT rfl | exact eA rfl | exact eN rfl | exact eQ rfl | exact eF rfl | exact eD rfl) rfl ?_ | refine F_iaS (by rfl) (by rfl) (by omega) (by (try simp only [go_sem, reduceIte, Nat.reduceEqDiff, Nat.reduceAdd, Nat.reduceMul]); try rfl) ?_ | refine F_ldP (by rfl) (by (try simp only [go_sem]); first | omega | decide) (by (try simp (disch := omega) only [go_sem, nl_getD, hrow, hv, ← hu]); try rfl) ?_ | refine F_nil (by (try simp only [go_sem, reduceIte, Nat.reduceEqDiff, Nat.reduceAdd, Nat.reduceMul]); try rfl) ?_ | refine F_lss (by rfl) (by rfl) (by first | exact ltT (by omega) | exact ltF (by omega) | rfl) ?_ | refine F_lenS (by rfl) ?_ | refine hx_true (by rfl) ?_ | refine hx_seq ?_ | refine hx_region ?_ | refine hx_block ?_ | refine hx_skip ?_ | refine F_sub (by rfl) (by rfl) (by (try simp (disch := omega) only [go_sem, Int.reduceAdd, Int.reduceSub, Int.reduceMul, nl_getD, hrow, hv, ← hu]); try rfl) ?_)
      refine F_call (by (try simp only [List.map_cons, List.map_nil]); repeat (first | (apply eL1; · exact (by first | exact eI rfl | exact eB rfl | exact eR rfl | exact eS rfl | exact eP rfl | exact eT rfl | exact eA rfl | exact eN rfl | exact eQ rfl | exact eF rfl | exact eD rfl)) | rfl)) (by simp (disch := omega) only [thawL, nl_len, HV.thaw, allIds, aget, nget, if_true, if_false, reduceIte, Nat.reduceEqDiff, stripL, HV.strip, win_intsE, win_boolsE, Nat.mul_one, List.cons_append, List.nil_append, List.append_nil, I, Bl, T3, List.getD_cons_zero, List.getD_cons_succ, HL.ints_strip, HL.bools_strip, trip_strip]; try rfl) (ht_gput x u (by omega) hxs) ?_
      rintro _ rfl
      refine ⟨(by simp only [refFreeL, HV.refFree, noRdL, HV.noRd, HL.ints_noRd, HL.bools_noRd, trip_noRd, Bool.or_true, Bool.true_or, Bool.or_false, Bool.false_or, Bool.and_true, Bool.true_and, Bool.and_self, List.isEmpty_nil, beq_self_eq_true, List.cons_append, List.nil_append]), _, _, _, _, _, (by simp only [unpack, unpackL, List.append_nil, List.nil_append, List.cons_append, stride, Nat.reduceAdd, Nat.reduceMul, Nat.zero_add]; try rfl), (by decide), (by simp only [upF, upS]; try rfl), ?_⟩
      repeat (first | refine F_mv (by first | exact eI rfl | exact eB rfl | exact eR rfl | exact eS rfl | exact eP rfl | exact eT rfl | exact eA rfl | exact eN rfl | exact eQ rfl | exact eF rfl | exact eD rfl) rfl ?_ | refine F_nil (by (try simp only [go_sem, reduceIte, Nat.reduceEqDiff, Nat.reduceAdd, Nat.reduceMul]); try rfl) ?_ | refine F_add (by rfl) (by rfl) (by (try simp (disch := omega) only [go_sem, Int.reduceAdd, Int.reduceSub, Int.reduceMul]); try rfl) ?_ | refine hx_region ?_ | refine hx_b ?_)
      exact hx_lG [5, 6, 7, 8, 9, 10, 11, 12] (j + 1, putN x u) ⟨hjl, hx2⟩ (by simp only; omega) rfl
    · obtain rfl : j = row.length := by omega
      rw [List.take_length] at hx
      have hsn := rowsO_snoc G x rfl
      have hG2 : G ++ [x] = turnG nd (i + 1) := by rw [hG, hx, ← turnG_succ, hk', hrow]
      have hB2 : B ++ [bad.getD k false] = turnB nd bad (i + 1) := by rw [hBB, ← turnB_succ, hk']
      repeat (first | refine F_mv (by first | exact eI rfl | exact eB rfl | exact eR rfl | exact eS rfl | exact eP rfl | exact eT rfl | exact eA rfl | exact eN rfl | exact eQ rfl | exact eF rfl | exact eD rfl) rfl ?_ | refine F_iaS (by rfl) (by rfl) (by omega) (by (try simp only [go_sem, reduceIte, Nat.reduceEqDiff, Nat.reduceAdd, Nat.reduceMul]); try rfl) ?_ | refine F_ldP (by rfl) (by (try simp only [go_sem]); first | omega | decide) (by (try simp (disch := omega) only [go_sem, nl_getD, hrow, hsn]); try rfl) ?_ | refine F_nil (by (try simp only [go_sem, reduceIte, Nat.reduceEqDiff, Nat.reduceAdd, Nat.reduceMul]); try rfl) ?_ | refine F_lss (by rfl) (by rfl) (by first | exact ltT (by omega) | exact ltF (by omega) | rfl) ?_ | refine F_add (by rfl) (by rfl) (by (try simp (disch := omega) only [go_sem, Int.reduceAdd, Int.reduceSub, Int.reduceMul, nl_getD, hrow, hsn]); try rfl) ?_ | refine F_lenS (by rfl) ?_ | refine hx_exitS (by rfl) ?_ | refine hx_false (by rfl) ?_ | refine hx_seq ?_ | refine hx_region ?_ | refine hx_b ?_ | refine F_bsl (by (try simp only [go_sem, reduceIte, Nat.reduceEqDiff, Nat.reduceAdd, Nat.reduceMul]); try rfl) (by (try simp only [List.map_cons, List.map_nil]); repeat (first | (apply eL1; · exact (by first | exact eI rfl | exact eB rfl | exact eR rfl | exact eS rfl | exact eP rfl | exact eT rfl | exact eA rfl | exact eN rfl | exact eQ rfl | exact eF rfl | exact eD rfl)) | rfl)) (by (try simp only [go_sem]); try rfl) (by first | rfl | exact HL.ints_flat _ | exact HL.bools_flat _) (by rfl) (by rfl) ?_ | refine F_appR (by (try simp only [go_sem, reduceIte, Nat.reduceEqDiff, Nat.reduceAdd, Nat.reduceMul]); try rfl) (by rfl) (by first | exact eI rfl | exact eB rfl | exact eR rfl | exact eS rfl | exact eP rfl | exact eT rfl | exact eA rfl | exact eN rfl | exact eQ rfl | exact eF rfl | exact eD rfl) (by (try simp (disch := omega) only [aget, go_sem, reduceIte, Nat.reduceEqDiff, Nat.reduceAdd, Nat.reduceMul]); try rfl) (by (try simp (disch := omega) only [go_sem, reduceIte, Nat.reduceEqDiff, Nat.reduceAdd, Nat.reduceMul, nl_getD, hrow, hsn]); try omega) (by first | exact eO rfl | exact eW rfl) (by (try simp (disch := omega) only [go_sem, reduceIte, Nat.reduceEqDiff, Nat.reduceAdd, Nat.reduceMul, nl_getD, hrow, hsn]); try rfl) (by (try simp only [go_sem, reduceIte, Nat.reduceEqDiff, Nat.reduceAdd, Nat.reduceMul]); try rfl) (by omega) (by unfold maxLen; omega) (by (try simp only [go_sem]); first | omega | decide) (by (try simp (disch := omega) only [go_sem, reduceIte, Nat.reduceEqDiff, Nat.reduceAdd, Nat.reduceMul, nl_getD, hrow, hsn]); try rfl) (by (try simp only [go_sem]); try rfl) ?_ | refine F_bslG (by (try simp only [go_sem, reduceIte, Nat.reduceEqDiff, Nat.reduceAdd, Nat.reduceMul]); try rfl) (by (try simp only [List.map_cons, List.map_nil]); repeat (first | (apply eL1; · exact (by first | exact eI rfl | exact eB rfl | exact eR rfl | exact eS rfl | exact eP rfl | exact eT rfl | exact eA rfl | exact eN rfl | exact eQ rfl | exact eF rfl | exact eD rfl)) | rfl)) (by (try simp only [go_sem]); try rfl) (by simp only [takeL, takeC, aget, Lk.upd, if_true, if_false, reduceIte, Nat.reduceEqDiff, List.append_nil, List.nil_append, List.cons_append]; try rfl) (by simp) (by rfl) (by rfl) (by rfl) ?_ | refine F_appRG (by (try simp only [go_sem, reduceIte, Nat.reduceEqDiff, Nat.reduceAdd, Nat.reduceMul]); try rfl) (by rfl) (by first | exact eI rfl | exact eB rfl | exact eR rfl | exact eS rfl | exact eP rfl | exact eT rfl | exact eA rfl | exact eN rfl | exact eQ rfl | exact eF rfl | exact eD rfl) (by (try simp (disch := omega) only [aget, go_sem, reduceIte, Nat.reduceEqDiff, Nat.reduceAdd, Nat.reduceMul]); try rfl) (by simp [allCell_cons, allCell_nil, cellV]) (by first | exact eO rfl | exact eW rfl) (by (try simp only [go_sem]); try rfl) (by (try simp only [go_sem, reduceIte, Nat.reduceEqDiff, Nat.reduceAdd, Nat.reduceMul]); try rfl) (by omega) (by unfold maxLen; omega) (by (try simp only [go_sem]); first | omega | decide) (by (try simp (disch := omega) only [go_sem, reduceIte, Nat.reduceEqDiff, Nat.reduceAdd, Nat.reduceMul, nl_getD, hrow, hsn]); try rfl) (by (try simp only [go_sem]); try rfl) (by rfl) ?_)
      exact hx_lG [5, 6, 7, 8, 9] (i + 1, G ++ [x], B ++ [bad.getD k false]) ⟨hin, hG2, hB2⟩ (by simp only; omega) rfl
  · obtain rfl : i = nd.length := by omega
    have g' : Gr G B := by rw [hG, hBB]; exact turn_gr g
    have hrv : IsRev nd bad G B := by rw [hG, hBB]; exact turn_rev g
    clear hG hBB
    have hnl' : (G.map nl).length = nd.length := by simp [hGl]
    have hE' : stripL (win (rowsO G) 0 (nd.length * 1)) = rowsI (G.map nl) := by rw [rowsO_win _ (by omega), rowsO_strip]
    have hB' : stripL (win (HL.bools B) 0 (nd.length * 1)) = HL.bools B := by rw [win_boolsE _ (by omega), HL.bools_strip]
    repeat (first | refine F_mv (by first | exact eI rfl | exact eB rfl | exact eR rfl | exact eS rfl | exact eP rfl | exact eT rfl | exact eA rfl | exact eN rfl | exact eQ rfl | exact eF rfl | exact eD rfl) rfl ?_ | refine F_nil (by (try simp only [go_sem, reduceIte, Nat.reduceEqDiff, Nat.reduceAdd, Nat.reduceMul]); try rfl) ?_ | refine F_lss (by rfl) (by rfl) (by first | exact ltT (by omega) | exact ltF (by omega) | rfl) ?_ | refine F_lenS (by rfl) ?_ | refine hx_exitS (by rfl) ?_ | refine hx_false (by rfl) ?_ | refine hx_seq ?_ | refine hx_region ?_)
    refine F_call (by (try simp only [List.map_cons, List.map_nil]); repeat (first | (apply eL1; · exact (by first | exact eI rfl | exact eB rfl | exact eR rfl | exact eS rfl | exact eP rfl | exact eT rfl | exact eA rfl | exact eN rfl | exact eQ rfl | exact eF rfl | exact eD rfl)) | rfl)) (by simp (disch := omega) only [thawL, Gs, hnl, hbl, HV.thaw, allIds, aget, nget, if_true, if_false, reduceIte, Nat.reduceEqDiff, stripL, HV.strip, win_intsE, win_boolsE, Nat.mul_one, List.cons_append, List.nil_append, List.append_nil, I, Bl, T3, List.getD_cons_zero, List.getD_cons_succ, HL.ints_strip, HL.bools_strip, trip_strip]; try rfl) (ht_grank nd bad g) ?_
    rintro _ ⟨rank, rfl, hR⟩
    have hlr := hR.len
    refine ⟨(by simp only [refFreeL, HV.refFree, noRdL, HV.noRd, HL.ints_noRd, HL.bools_noRd, trip_noRd, Bool.or_true, Bool.true_or, Bool.or_false, Bool.false_or, Bool.and_true, Bool.true_and, Bool.and_self, List.isEmpty_nil, beq_self_eq_true, List.cons_append, List.nil_append]), _, _, _, _, _, (by simp only [unpack, unpackL, List.append_nil, List.nil_append, List.cons_append, stride, Nat.reduceAdd, Nat.reduceMul, Nat.zero_add]; try rfl), (by decide), (by simp only [upF, upS]; try rfl), ?_⟩
    repeat (first | refine F_mv (by first | exact eI rfl | exact eB rfl | exact eR rfl | exact eS rfl | exact eP rfl | exact eT rfl | exact eA rfl | exact eN rfl | exact eQ rfl | exact eF rfl | exact eD rfl) rfl ?_ | refine F_nil (by (try simp only [go_sem, reduceIte, Nat.reduceEqDiff, Nat.reduceAdd, Nat.reduceMul]); try rfl) ?_)
    refine hx_dropN [5, 6, 7, 8, 13] (⟨[(5, .sl nd.length (rowsI (nd.map nl))), (6, .sl nd.length (HL.bools bad)), (7, .ref 0 [] 1 0 nd.length), (8, .ref 1 [] 1 0 nd.length), (13, .ref 2 [] 1 0 nd.length)], [(0, .osl 1 nd.length (rowsO G)), (1, .osl 1 nd.length (HL.bools B)), (2, .osl 1 nd.length (HL.ints rank))], 3⟩ : St) rfl ?_
    refine hx_freezeN 0 [5, 6, 7, 8, 13] _ (congrArg (fun c : List HV => (⟨[(5, .sl nd.length (rowsI (nd.map nl))), (6, .sl nd.length (HL.bools bad)), (7, .sl nd.length c), (8, .ref 0 [] 1 0 nd.length), (13, .ref 1 [] 1 0 nd.length)], [(0, .osl 1 nd.length (HL.bools B)), (1, .osl 1 nd.length (HL.ints rank))], 2⟩ : St)) hE') ?_
    refine hx_freezeN 0 [5, 6, 7, 8, 13] _ (congrArg (fun c : List HV => (⟨[(5, .sl nd.length (rowsI (nd.map nl))), (6, .sl nd.length (HL.bools bad)), (7, .sl nd.length (rowsI (G.map nl))), (8, .sl nd.length c), (13, .ref 0 [] 1 0 nd.length)], [(0, .osl 1 nd.length (HL.ints rank))], 1⟩ : St)) hB') ?_
    repeat (first | refine F_mv (by first | exact eI rfl | exact eB rfl | exact eR rfl | exact eS rfl | exact eP rfl | exact eT rfl | exact eA rfl | exact eN rfl | exact eQ rfl | exact eF rfl | exact eD rfl) rfl ?_ | refine hx_seq ?_ | refine hx_region ?_)
    have hgr' := ht_grank G B g'
    rw [hGl] at hgr'
    refine F_call (by (try simp only [List.map_cons, List.map_nil]); repeat (first | (apply eL1; · exact (by first | exact eI rfl | exact eB rfl | exact eR rfl | exact eS rfl | exact eP rfl | exact eT rfl | exact eA rfl | exact eN rfl | exact eQ rfl | exact eF rfl | exact eD rfl)) | rfl)) (by simp (disch := omega) only [thawL, Gs, hnl', hBl, HV.thaw, allIds, aget, nget, if_true, if_false, reduceIte, Nat.reduceEqDiff, stripL, HV.strip, win_intsE, win_boolsE, Nat.mul_one, List.cons_append, List.nil_append, List.append_nil, I, Bl, T3, List.getD_cons_zero, List.getD_cons_succ, HL.ints_strip, HL.bools_strip, trip_strip]; try rfl) (hgr') ?_
    rintro _ ⟨rank', rfl, hR'⟩
    have hlr' := hR'.len
    rw [hGl] at hlr'
    refine ⟨(by simp only [refFreeL, HV.refFree, noRdL, HV.noRd, HL.ints_noRd, HL.bools_noRd, trip_noRd, Bool.or_true, Bool.true_or, Bool.or_false, Bool.false_or, Bool.and_true, Bool.true_and, Bool.and_self, List.isEmpty_nil, beq_self_eq_true, List.cons_append, List.nil_append]), _, _, _, _, _, (by simp only [unpack, unpackL, List.append_nil, List.nil_append, List.cons_append, stride, Nat.reduceAdd, Nat.reduceMul, Nat.zero_add]; try rfl), (by decide), (by simp only [upF, upS]; try rfl), ?_⟩
    have hrr : ∀ i k, i < nd.length → k = nd.length - 1 - i → rank'.getD k 0 = rank.getD i 0 := fun i k hi hk => by
      subst hk
      rw [hR'.unique g' (hrv.rank_ g g' hR)]
      have := reverse_getD rank (k := i) (by omega)
      rw [hlr] at this
      exact this
    repeat (first | refine F_mv (by first | exact eI rfl | exact eB rfl | exact eR rfl | exact eS rfl | exact eP rfl | exact eT rfl | exact eA rfl | exact eN rfl | exact eQ rfl | exact eF rfl | exact eD rfl) rfl ?_ | refine F_yes (by rfl) (by rfl) ?_ | refine F_nil (by (try simp only [go_sem, reduceIte, Nat.reduceEqDiff, Nat.reduceAdd, Nat.reduceMul]); try rfl) ?_ | refine F_neq (by rfl) (by rfl) (by first | exact neF (by omega) | exact neT (by omega) | rfl) ?_ | refine F_pickF (by rfl) (by first | exact eI rfl | exact eB rfl | exact eR rfl | exact eS rfl | exact eP rfl | exact eT rfl | exact eA rfl | exact eN rfl | exact eQ rfl | exact eF rfl | exact eD rfl) ?_ | refine F_lenR (by rfl) ?_ | refine F_lenS (by rfl) ?_ | refine hx_false (by rfl) ?_ | refine hx_seq ?_ | refine hx_region ?_ | refine hx_block ?_ | refine hx_skip ?_)
    refine hx_loopG [5, 6, 7, 8, 13, 14, 15] (fun i : Nat => i ≤ nd.length) (fun i => ⟨[(5, .sl nd.length (rowsI (nd.map nl))), (6, .sl nd.length (HL.bools bad)), (7, .sl nd.length (rowsI (G.map nl))), (8, .sl nd.length (HL.bools B)), (13, .ref 0 [] 1 0 nd.length), (14, .ref 1 [] 1 0 nd.length), (15, .int .i64 i)], [(0, .osl 1 nd.length (HL.ints rank)), (1, .osl 1 nd.length (HL.ints rank'))], 2⟩) (fun i => nd.length - i) 0 (by omega) rfl ?_
    clear hi hin
    rintro i hi
    by_cases hin : i < nd.length
    · obtain ⟨k, hk⟩ : ∃ k : Nat, (k : Int) = (nd.length : Int) - 1 - i := ⟨nd.length - 1 - i, by omega⟩
      have hkn : k < nd.length := by omega
      have hk' : k = nd.length - 1 - i := by omega
      have hri := hrr i k hin hk'
      obtain ⟨L, hL1, hL2⟩ := wit_len (rank := rank) (rank' := rank') g g' hrv hin hk'
      have hw : ∃ L, HT Try.prog 24 [Gs (nd.map nl), Bl bad, .int .i64 i] (IsL L) ∧ HT Try.prog 24 [Gs (G.map nl), Bl B, .int .i64 k] (IsL L) := by
        by_cases hir : 0 ≤ rank.getD i 0
        · refine ⟨0, (ht_witness_no nd bad i g (fun rank2 hR2 => .inr (.inr (by rw [hR2.unique g hR, Int.toNat_natCast]; exact hir)))).mono ?_, (ht_witness_no G B k g' (fun rank2 hR2 => .inr (.inr (by rw [hR2.unique g' hR', Int.toNat_natCast, hri]; exact hir)))).mono ?_⟩
          · rintro _ rfl; exact ⟨[], rfl, rfl⟩
          · rintro _ rfl; exact ⟨[], rfl, rfl⟩
        · exact ⟨L, ht_witlen nd bad rank i L g hR hin (by omega) hL1, ht_witlen G B rank' k L g' hR' (by omega) (by omega) hL2⟩
      clear hL1 hL2 L
      obtain ⟨L, hL1, hL2⟩ := hw
      repeat (first | refine F_mv (by first | exact eI rfl | exact eB rfl | exact eR rfl | exact eS rfl | exact eP rfl | exact eT rfl | exact eA rfl | exact eN rfl | exact eQ rfl | exact eF rfl | exact eD rfl) rfl ?_ | refine F_nil (by (try simp only [go_sem, reduceIte, Nat.reduceEqDiff, Nat.reduceAdd, Nat.reduceMul]); try rfl) ?_ | refine F_lss (by rfl) (by rfl) (by first | exact ltT (by omega) | exact ltF (by omega) | rfl) ?_ | refine F_lenS (by rfl) ?_ | refine hx_true (by rfl) ?_ | refine hx_seq ?_ | refine hx_region ?_ | refine hx_block ?_ | refine hx_skip ?_ | refine F_sub (by rfl) (by rfl) (by (try simp (disch := omega) only [go_sem, Int.reduceAdd, Int.reduceSub, Int.reduceMul, ← hk]); try rfl) ?_)
      refine hx_draw (by kernel_rfl) (by kernel_rfl) (fun _ _ r => IsL L r) ?_
      repeat (first | refine F_mv (by first | exact eI rfl | exact eB rfl | exact eR rfl | exact eS rfl | exact eP rfl | exact eT rfl | exact eA rfl | exact eN rfl | exact eQ rfl | exact eF rfl | exact eD rfl) rfl ?_ | refine F_yes (by rfl) (by rfl) ?_ | refine F_iaR (by rfl) (by rfl) (by omega) (by (try simp only [go_sem, reduceIte, Nat.reduceEqDiff, Nat.reduceAdd, Nat.reduceMul]); try rfl) ?_ | refine F_ldR (by rfl) (by first | exact eO rfl | exact eW rfl) (by (try simp (disch := omega) only [go_sem, reduceIte, Nat.reduceEqDiff, Nat.reduceAdd, Nat.reduceMul, hri]); try rfl) (by (try simp only [go_sem]); first | omega | decide) (by (try simp (disch := omega) only [go_sem, hri]); try rfl) (by first | exact eI rfl | exact eB rfl | exact eR rfl | exact eS rfl | exact eP rfl | exact eT rfl | exact eA rfl | exact eN rfl | exact eQ rfl | exact eF rfl | exact eD rfl) ?_ | refine F_neq (by rfl) (by rfl) (by first | exact neF (by omega) | exact neT (by omega) | rfl) ?_)
      refine F_callD (by (try simp only [List.map_cons, List.map_nil]); repeat (first | (apply eL1; · exact (by first | exact eI rfl | exact eB rfl | exact eR rfl | exact eS rfl | exact eP rfl | exact eT rfl | exact eA rfl | exact eN rfl | exact eQ rfl | exact eF rfl | exact eD rfl)) | rfl)) (by simp (disch := omega) only [thawL, Gs, hnl, hbl, HV.thaw, allIds, aget, nget, if_true, if_false, reduceIte, Nat.reduceEqDiff, stripL, HV.strip, win_intsE, win_boolsE, Nat.mul_one, List.cons_append, List.nil_append, List.append_nil, I, Bl, T3, List.getD_cons_zero, List.getD_cons_succ, HL.ints_strip, HL.bools_strip, trip_strip]; try rfl) hL1 (IsL_ex L) ?_
      rintro _ ⟨l1, rfl, hl1⟩ -
      refine ⟨(by simp only [refFreeL, HV.refFree, noRdL, HV.noRd, HL.ints_noRd, HL.bools_noRd, trip_noRd, Bool.or_true, Bool.true_or, Bool.or_false, Bool.false_or, Bool.and_true, Bool.true_and, Bool.and_self, List.isEmpty_nil, beq_self_eq_true, List.cons_append, List.nil_append]), _, _, _, _, _, (by simp only [unpack, unpackL, List.append_nil, List.nil_append, List.cons_append, stride, Nat.reduceAdd, Nat.reduceMul, Nat.zero_add]; try rfl), (by decide), (by simp only [upF, upS]; try rfl), ?_⟩
      repeat (first | refine F_mv (by first | exact eI rfl | exact eB rfl | exact eR rfl | exact eS rfl | exact eP rfl | exact eT rfl | exact eA rfl | exact eN rfl | exact eQ rfl | exact eF rfl | exact eD rfl) rfl ?_ | refine F_yes (by rfl) (by rfl) ?_ | refine F_lenR (by rfl) ?_)
      refine F_callD (by (try simp only [List.map_cons, List.map_nil]); repeat (first | (apply eL1; · exact (by first | exact eI rfl | exact eB rfl | exact eR rfl | exact eS rfl | exact eP rfl | exact eT rfl | exact eA rfl | exact eN rfl | exact eQ rfl | exact eF rfl | exact eD rfl)) | rfl)) (by simp (disch := omega) only [thawL, Gs, hnl', hBl, HV.thaw, allIds, aget, nget, if_true, if_false, reduceIte, Nat.reduceEqDiff, stripL, HV.strip, win_intsE, win_boolsE, Nat.mul_one, List.cons_append, List.nil_append, List.append_nil, I, Bl, T3, List.getD_cons_zero, List.getD_cons_succ, HL.ints_strip, HL.bools_strip, trip_strip]; try rfl) hL2 (IsL_ex L) ?_
      rintro _ ⟨l2, rfl, hl2⟩ -
      refine ⟨(by simp only [refFreeL, HV.refFree, noRdL, HV.noRd, HL.ints_noRd, HL.bools_noRd, trip_noRd, Bool.or_true, Bool.true_or, Bool.or_false, Bool.false_or, Bool.and_true, Bool.true_and, Bool.and_self, List.isEmpty_nil, beq_self_eq_true, List.cons_append, List.nil_append]), _, _, _, _, _, (by simp only [unpack, unpackL, List.append_nil, List.nil_append, List.cons_append, stride, Nat.reduceAdd, Nat.reduceMul, Nat.zero_add]; try rfl), (by decide), (by simp only [upF, upS]; try rfl), ?_⟩
      repeat (first | refine F_mv (by first | exact eI rfl | exact eB rfl | exact eR rfl | exact eS rfl | exact eP rfl | exact eT rfl | exact eA rfl | exact eN rfl | exact eQ rfl | exact eF rfl | exact eD rfl) rfl ?_ | refine F_yes (by rfl) (by rfl) ?_ | refine F_nil (by (try simp only [go_sem, reduceIte, Nat.reduceEqDiff, Nat.reduceAdd, Nat.reduceMul]); try rfl) ?_ | refine F_neq (by rfl) (by rfl) (by first | exact neF (by omega) | exact neT (by omega) | rfl) ?_ | refine F_pickF (by rfl) (by first | exact eI rfl | exact eB rfl | exact eR rfl | exact eS rfl | exact eP rfl | exact eT rfl | exact eA rfl | exact eN rfl | exact eQ rfl | exact eF rfl | exact eD rfl) ?_ | refine F_add (by rfl) (by rfl) (by (try simp (disch := omega) only [go_sem, Int.reduceAdd, Int.reduceSub, Int.reduceMul]); try rfl) ?_ | refine F_lenR (by rfl) ?_ | refine hx_false (by rfl) ?_ | refine hx_region ?_ | refine hx_b ?_ | refine hx_skip ?_)
      exact hx_lG [5, 6, 7, 8, 13, 14, 15] (i + 1) hin (by omega) rfl
    · repeat (first | refine F_mv (by first | exact eI rfl | exact eB rfl | exact eR rfl | exact eS rfl | exact eP rfl | exact eT rfl | exact eA rfl | exact eN rfl | exact eQ rfl | exact eF rfl | exact eD rfl) rfl ?_ | refine F_nil (by (try simp only [go_sem, reduceIte, Nat.reduceEqDiff, Nat.reduceAdd, Nat.reduceMul]); try rfl) ?_ | refine F_lss (by rfl) (by rfl) (by first | exact ltT (by omega) | exact ltF (by omega) | rfl) ?_ | refine F_lenS (by rfl) ?_ | refine hx_exitS (by rfl) ?_ | refine hx_false (by rfl) ?_ | refine hx_seq ?_ | refine hx_region ?_)
      refine F_call (by (try simp only [List.map_cons, List.map_nil]); repeat (first | (apply eL1; · exact (by first | exact eI rfl | exact eB rfl | exact eR rfl | exact eS rfl | exact eP rfl | exact eT rfl | exact eA rfl | exact eN rfl | exact eQ rfl | exact eF rfl | exact eD rfl)) | rfl)) (by simp (disch := omega) only [thawL, Gs, hnl, hbl, HV.thaw, allIds, aget, nget, if_true, if_false, reduceIte, Nat.reduceEqDiff, stripL, HV.strip, win_intsE, win_boolsE, Nat.mul_one, List.cons_append, List.nil_append, List.append_nil, I, Bl, T3, List.getD_cons_zero, List.getD_cons_succ, HL.ints_strip, HL.bools_strip, trip_strip]; try rfl) (ht_circle nd bad g) ?_
      rintro _ ⟨p1, rfl, hc1⟩
      refine ⟨(by simp only [refFreeL, HV.refFree, noRdL, HV.noRd, HL.ints_noRd, HL.bools_noRd, trip_noRd, Bool.or_true, Bool.true_or, Bool.or_false, Bool.false_or, Bool.and_true, Bool.true_and, Bool.and_self, List.isEmpty_nil, beq_self_eq_true, List.cons_append, List.nil_append]), _, _, _, _, _, (by simp only [unpack, unpackL, List.append_nil, List.nil_append, List.cons_append, stride, Nat.reduceAdd, Nat.reduceMul, Nat.zero_add]; try rfl), (by decide), (by simp only [upF, upS]; try rfl), ?_⟩
      repeat (first | refine F_mv (by first | exact eI rfl | exact eB rfl | exact eR rfl | exact eS rfl | exact eP rfl | exact eT rfl | exact eA rfl | exact eN rfl | exact eQ rfl | exact eF rfl | exact eD rfl) rfl ?_ | refine F_lenR (by rfl) ?_)
      refine F_call (by (try simp only [List.map_cons, List.map_nil]); repeat (first | (apply eL1; · exact (by first | exact eI rfl | exact eB rfl | exact eR rfl | exact eS rfl | exact eP rfl | exact eT rfl | exact eA rfl | exact eN rfl | exact eQ rfl | exact eF rfl | exact eD rfl)) | rfl)) (by simp (disch := omega) only [thawL, Gs, hnl', hBl, HV.thaw, allIds, aget, nget, if_true, if_false, reduceIte, Nat.reduceEqDiff, stripL, HV.strip, win_intsE, win_boolsE, Nat.mul_one, List.cons_append, List.nil_append, List.append_nil, I, Bl, T3, List.getD_cons_zero, List.getD_cons_succ, HL.ints_strip, HL.bools_strip, trip_strip]; try rfl) (ht_circle G B g') ?_
      rintro _ ⟨p2, rfl, hc2⟩
      have hpp := hrv.circles g g' hc1 hc2
      refine ⟨(by simp only [refFreeL, HV.refFree, noRdL, HV.noRd, HL.ints_noRd, HL.bools_noRd, trip_noRd, Bool.or_true, Bool.true_or, Bool.or_false, Bool.false_or, Bool.and_true, Bool.true_and, Bool.and_self, List.isEmpty_nil, beq_self_eq_true, List.cons_append, List.nil_append]), _, _, _, _, _, (by simp only [unpack, unpackL, List.append_nil, List.nil_append, List.cons_append, stride, Nat.reduceAdd, Nat.reduceMul, Nat.zero_add]; try rfl), (by decide), (by simp only [upF, upS]; try rfl), ?_⟩
      repeat (first | refine F_mv (by first | exact eI rfl | exact eB rfl | exact eR rfl | exact eS rfl | exact eP rfl | exact eT rfl | exact eA rfl | exact eN rfl | exact eQ rfl | exact eF rfl | exact eD rfl) rfl ?_ | refine F_yes (by rfl) (by rfl) ?_ | refine F_eql (by rfl) (by rfl) (by first | exact eqT (by omega) | exact eqF (by omega) | rfl) ?_ | refine F_lenR (by rfl) ?_)
      refine F_call (by (try simp only [List.map_cons, List.map_nil]); repeat (first | (apply eL1; · exact (by first | exact eI rfl | exact eB rfl | exact eR rfl | exact eS rfl | exact eP rfl | exact eT rfl | exact eA rfl | exact eN rfl | exact eQ rfl | exact eF rfl | exact eD rfl)) | rfl)) (by simp (disch := omega) only [thawL, HV.thaw, allIds, aget, nget, if_true, if_false, reduceIte, Nat.reduceEqDiff, stripL, HV.strip, win_intsE, win_boolsE, Nat.mul_one, List.cons_append, List.nil_append, List.append_nil, I, Bl, T3, List.getD_cons_zero, List.getD_cons_succ, HL.ints_strip, HL.bools_strip, trip_strip]; try rfl) (ht_lives) ?_
      rintro _ rfl
      refine ⟨(by simp only [refFreeL, HV.refFree, noRdL, HV.noRd, HL.ints_noRd, HL.bools_noRd, trip_noRd, Bool.or_true, Bool.true_or, Bool.or_false, Bool.false_or, Bool.and_true, Bool.true_and, Bool.and_self, List.isEmpty_nil, beq_self_eq_true, List.cons_append, List.nil_append]), _, _, _, _, _, (by simp only [unpack, unpackL, List.append_nil, List.nil_append, List.cons_append, stride, Nat.reduceAdd, Nat.reduceMul, Nat.zero_add]; try rfl), (by decide), (by simp only [upF, upS]; try rfl), ?_⟩
      repeat (first | refine F_mv (by first | exact eI rfl | exact eB rfl | exact eR rfl | exact eS rfl | exact eP rfl | exact eT rfl | exact eA rfl | exact eN rfl | exact eQ rfl | exact eF rfl | exact eD rfl) rfl ?_ | refine F_nil (by (try simp only [go_sem, reduceIte, Nat.reduceEqDiff, Nat.reduceAdd, Nat.reduceMul]); try rfl) ?_ | refine F_pickT (by rfl) (by first | exact eI rfl | exact eB rfl | exact eR rfl | exact eS rfl | exact eP rfl | exact eT rfl | exact eA rfl | exact eN rfl | exact eQ rfl | exact eF rfl | exact eD rfl) ?_)
      refine hx_retF (by (try simp only [List.map_cons, List.map_nil]); repeat (first | (apply eL1; · exact (by first | exact eI rfl | exact eB rfl | exact eR rfl | exact eS rfl | exact eP rfl | exact eT rfl | exact eA rfl | exact eN rfl | exact eQ rfl | exact eF rfl | exact eD rfl)) | rfl)) (by simp only [takeDL, takeD, takeC, aget, Lk.upd, if_true, if_false, reduceIte, Nat.reduceEqDiff, List.append_nil, List.nil_append]; try rfl) (by first | trivial | (refine ⟨?_, ?_⟩ <;> trivial) | (simp only [and_true, true_and]; done)) ?_
      rfl

end Go.Proofs.Ytjlidhijnohkbaa
