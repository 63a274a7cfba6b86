/-
  OWN WORK. The program's Witness in the value language.
-/
import Derived.Test.YtjlidhijnohkbaaGrWit
set_option linter.unusedSimpArgs false
set_option linter.unusedVariables false
namespace Go.Proofs.Ytjlidhijnohkbaa
open Go.RowKit Go.HL

theorem IsRest.ex {bad : List Bool} {dv round : List Int} {n : Nat} (h : ∀ k, k < n → 0 ≤ round.getD k 0) : ∀ i, i ≤ n → ∃ r, IsRest bad dv round n i r := by
  intro i
  induction i with
  | zero => intro _; exact ⟨2 * n, by simp, by omega, fun u hu => absurd hu (by simp), .inl rfl⟩
  | succ i ih =>
    intro hi
    obtain ⟨r, hr⟩ := ih (by omega)
    by_cases h1 : 0 ≤ dv.getD i 0 ∧ ends bad round i
    · exact ⟨_, hr.take h1.1 h1.2 (h i (by omega))⟩
    · exact ⟨_, hr.skip h1⟩

set_option maxHeartbeats 4000000 in
theorem ht_witness_bad (needs : List (List Int)) (bad : List Bool) (i : Int) (h1 : needs.length ≤ 9223372036854775807) (h2 : bad.length ≤ 9223372036854775807) (h3 : ∀ i, (needs.getD i []).length ≤ 9223372036854775807) (hv : ¬ VG needs bad) : HT Try.prog 24 [Gs needs, Bl bad, .int .i64 i] (fun r => r = .osl 1 0 []) := by
  refine HT.of rfl fc24 (Nat.le_of_ble_eq_true rfl) ?_
  unfold c24
  simp only [Gs, Bl, argSlots, Nat.reduceAdd]
  repeat (first | refine F_ldR (by rfl) (by first | exact eO rfl | exact eW rfl) (by (try simp only [go_sem]); try rfl) (by (try simp only [go_sem]); first | omega | decide) (by (try simp (disch := omega) only [go_sem]); try rfl) zT0 ?_ | refine F_nil zT1 ?_ | refine hx_seq ?_ | refine hx_region ?_ | refine F_mvnil rfl (by rfl) zT1 ?_ | refine F_newv zT1 zT0 (by (try simp only [go_sem]); try rfl) (by first | rfl | exact HL.ints_flat _ | exact HL.bools_flat _) (by rfl) ?_)
  refine F_call (by (try simp only [List.map_cons, List.map_nil]); repeat (first | (apply eL1; · exact zT0) | rfl)) (by simp (disch := omega) only [thawL, Gs, HV.thaw, allIds, aget, nget, if_true, if_false, reduceIte, Nat.reduceEqDiff, stripL, HV.strip, win_intsE, win_boolsE, Nat.mul_one, List.cons_append, List.nil_append, List.append_nil, I, Bl, T3, List.getD_cons_zero, List.getD_cons_succ, HL.ints_strip, HL.bools_strip, trip_strip]; try rfl) (ht_grank_bad needs bad h1 h2 h3 hv) ?_
  rintro _ rfl
  refine ⟨(by simp only [refFreeL, HV.refFree, noRdL, HV.noRd, HL.ints_noRd, HL.bools_noRd, trip_noRd, Bool.or_true, Bool.true_or, Bool.or_false, Bool.false_or, Bool.and_true, Bool.true_and, Bool.and_self, List.isEmpty_nil, beq_self_eq_true, List.cons_append, List.nil_append]), _, _, _, _, _, zT4, (by decide), (by simp only [upF, upS]; try rfl), ?_⟩
  by_cases hi : i < 0
  · repeat (first | refine F_mv zT0 rfl ?_ | refine F_no (by rfl) (by rfl) ?_ | refine F_nil zT1 ?_ | refine F_lss (by rfl) (by rfl) zT6 ?_ | refine F_pickT (by rfl) zT0 ?_ | refine hx_true (by rfl) ?_ | refine hx_seq ?_ | refine hx_region ?_ | refine F_mvnil rfl (by rfl) zT1 ?_)
    refine hx_retF (by (try simp only [List.map_cons, List.map_nil]); repeat (first | (apply eL1; · exact zT0) | rfl)) zT5 zT7 ?_
    rfl
  · repeat (first | refine F_mv zT0 rfl ?_ | refine F_yes (by rfl) (by rfl) ?_ | refine F_no (by rfl) (by rfl) ?_ | refine F_nil zT1 ?_ | refine F_lss (by rfl) (by rfl) zT6 ?_ | refine F_pickT (by rfl) zT0 ?_ | refine F_pickF (by rfl) zT0 ?_ | refine F_lenR (by rfl) ?_ | refine hx_true (by rfl) ?_ | refine hx_seq ?_ | refine hx_region ?_ | refine F_mvnil rfl (by rfl) zT1 ?_ | refine F_geq (by rfl) (by rfl) (by first | exact leT (by omega) | exact leF (by omega) | rfl) ?_)
    refine hx_retF (by (try simp only [List.map_cons, List.map_nil]); repeat (first | (apply eL1; · exact zT0) | rfl)) zT5 zT7 ?_
    rfl

set_option maxHeartbeats 4000000 in
theorem ht_witness_no (nd : List (List Nat)) (bad : List Bool) (i : Int) (g : Gr nd bad) (hno : ∀ rank, IsRank nd bad rank → i < 0 ∨ (nd.length : Int) ≤ i ∨ 0 ≤ rank.getD i.toNat 0) : HT Try.prog 24 [Gs (nd.map nl), Bl bad, .int .i64 i] (fun r => r = .osl 1 0 []) := by
  have hsz := g.size
  have hbl := g.bads
  have hnl : (nd.map nl).length = nd.length := by simp
  refine HT.of rfl fc24 (Nat.le_of_ble_eq_true rfl) ?_
  unfold c24
  simp only [Gs, Bl, argSlots, Nat.reduceAdd]
  rw [hnl, hbl]
  repeat (first | refine F_ldR (by rfl) (by first | exact eO rfl | exact eW rfl) (by (try simp only [go_sem]); try rfl) (by (try simp only [go_sem]); first | omega | decide) (by (try simp (disch := omega) only [go_sem]); try rfl) zT0 ?_ | refine F_nil zT1 ?_ | refine hx_seq ?_ | refine hx_region ?_ | refine F_mvnil rfl (by rfl) zT1 ?_ | refine F_newv zT1 zT0 (by (try simp only [go_sem]); try rfl) (by first | rfl | exact HL.ints_flat _ | exact HL.bools_flat _) (by rfl) ?_)
  refine F_call (by (try simp only [List.map_cons, List.map_nil]); repeat (first | (apply eL1; · exact zT0) | rfl)) (by simp (disch := omega) only [thawL, Gs, hnl, hbl, HV.thaw, allIds, aget, nget, if_true, if_false, reduceIte, Nat.reduceEqDiff, stripL, HV.strip, win_intsE, win_boolsE, Nat.mul_one, List.cons_append, List.nil_append, List.append_nil, I, Bl, T3, List.getD_cons_zero, List.getD_cons_succ, HL.ints_strip, HL.bools_strip, trip_strip]; try rfl) (ht_grank nd bad g) ?_
  rintro _ ⟨rank, rfl, hR⟩
  refine ⟨(by simp only [refFreeL, HV.refFree, noRdL, HV.noRd, HL.ints_noRd, HL.bools_noRd, trip_noRd, Bool.or_true, Bool.true_or, Bool.or_false, Bool.false_or, Bool.and_true, Bool.true_and, Bool.and_self, List.isEmpty_nil, beq_self_eq_true, List.cons_append, List.nil_append]), _, _, _, _, _, zT4, (by decide), (by simp only [upF, upS]; try rfl), ?_⟩
  have hrl := hR.len
  rcases hno rank hR with h | h | h
  · repeat (first | refine F_mv zT0 rfl ?_ | refine F_no (by rfl) (by rfl) ?_ | refine F_nil zT1 ?_ | refine F_lss (by rfl) (by rfl) zT6 ?_ | refine F_pickT (by rfl) zT0 ?_ | refine hx_true (by rfl) ?_ | refine hx_seq ?_ | refine hx_region ?_ | refine F_mvnil rfl (by rfl) zT1 ?_)
    refine hx_retF (by (try simp only [List.map_cons, List.map_nil]); repeat (first | (apply eL1; · exact zT0) | rfl)) zT5 zT7 ?_
    rfl
  · repeat (first | refine F_mv zT0 rfl ?_ | refine F_yes (by rfl) (by rfl) ?_ | refine F_no (by rfl) (by rfl) ?_ | refine F_nil zT1 ?_ | refine F_lss (by rfl) (by rfl) zT6 ?_ | refine F_pickT (by rfl) zT0 ?_ | refine F_pickF (by rfl) zT0 ?_ | refine F_lenR (by rfl) ?_ | refine hx_true (by rfl) ?_ | refine hx_seq ?_ | refine hx_region ?_ | refine F_mvnil rfl (by rfl) zT1 ?_ | refine F_geq (by rfl) (by rfl) (by first | exact leT (by omega) | exact leF (by omega) | rfl) ?_)
    refine hx_retF (by (try simp only [List.map_cons, List.map_nil]); repeat (first | (apply eL1; · exact zT0) | rfl)) zT5 zT7 ?_
    rfl
  · by_cases h0 : i < 0
    · repeat (first | refine F_mv zT0 rfl ?_ | refine F_no (by rfl) (by rfl) ?_ | refine F_nil zT1 ?_ | refine F_lss (by rfl) (by rfl) zT6 ?_ | refine F_pickT (by rfl) zT0 ?_ | refine hx_true (by rfl) ?_ | refine hx_seq ?_ | refine hx_region ?_ | refine F_mvnil rfl (by rfl) zT1 ?_)
      refine hx_retF (by (try simp only [List.map_cons, List.map_nil]); repeat (first | (apply eL1; · exact zT0) | rfl)) zT5 zT7 ?_
      rfl
    · by_cases h4 : (nd.length : Int) ≤ i
      · repeat (first | refine F_mv zT0 rfl ?_ | refine F_yes (by rfl) (by rfl) ?_ | refine F_no (by rfl) (by rfl) ?_ | refine F_nil zT1 ?_ | refine F_lss (by rfl) (by rfl) zT6 ?_ | refine F_pickT (by rfl) zT0 ?_ | refine F_pickF (by rfl) zT0 ?_ | refine F_lenR (by rfl) ?_ | refine hx_true (by rfl) ?_ | refine hx_seq ?_ | refine hx_region ?_ | refine F_mvnil rfl (by rfl) zT1 ?_ | refine F_geq (by rfl) (by rfl) (by first | exact leT (by omega) | exact leF (by omega) | rfl) ?_)
        refine hx_retF (by (try simp only [List.map_cons, List.map_nil]); repeat (first | (apply eL1; · exact zT0) | rfl)) zT5 zT7 ?_
        rfl
      · obtain ⟨j, rfl⟩ : ∃ j : Nat, i = j := ⟨i.toNat, by omega⟩
        simp only [Int.toNat_natCast] at h
        repeat (first | refine F_mv zT0 rfl ?_ | refine F_yes (by rfl) (by rfl) ?_ | refine F_iaR (by rfl) (by rfl) (by omega) zT1 ?_ | refine F_ldR (by rfl) (by first | exact eO rfl | exact eW rfl) (by (try simp only [go_sem]); try rfl) (by (try simp only [go_sem]); first | omega | decide) (by (try simp (disch := omega) only [go_sem]); try rfl) zT0 ?_ | refine F_nil zT1 ?_ | refine F_lss (by rfl) (by rfl) zT6 ?_ | refine F_pickF (by rfl) zT0 ?_ | refine F_lenR (by rfl) ?_ | refine hx_true (by rfl) ?_ | refine hx_seq ?_ | refine hx_region ?_ | refine F_mvnil rfl (by rfl) zT1 ?_ | refine F_geq (by rfl) (by rfl) (by first | exact leT (by omega) | exact leF (by omega) | rfl) ?_)
        refine hx_retF (by (try simp only [List.map_cons, List.map_nil]); repeat (first | (apply eL1; · exact zT0) | rfl)) zT5 zT7 ?_
        rfl

set_option maxHeartbeats 8000000 in
theorem ht_witness (nd : List (List Nat)) (bad : List Bool) (rank : List Int) (i : Nat) (g : Gr nd bad) (hR : IsRank nd bad rank) (hi : i < nd.length) (hir : rank.getD i 0 < 0) : HT Try.prog 24 [Gs (nd.map nl), Bl bad, .int .i64 i] (fun r => ∃ ds round path total, r = .osl 1 path.length (HL.ints (nl path)) ∧ IsTable nd bad ds round ∧ Pth nd bad ds round rank i total path ∧ (path.length : Int) = total + 1) := by
  have hsz := g.size
  have hbl := g.bads
  have hnl : (nd.map nl).length = nd.length := by simp
  refine HT.of rfl fc24 (Nat.le_of_ble_eq_true rfl) ?_
  unfold c24
  simp only [Gs, Bl, argSlots, Nat.reduceAdd]
  rw [hnl, hbl]
  repeat (first | refine F_ldR (by rfl) (by first | exact eO rfl | exact eW rfl) (by (try simp only [go_sem]); try rfl) (by (try simp only [go_sem]); first | omega | decide) (by (try simp (disch := omega) only [go_sem]); try rfl) zT0 ?_ | refine F_nil zT1 ?_ | refine hx_seq ?_ | refine hx_region ?_ | refine F_mvnil rfl (by rfl) zT1 ?_ | refine F_newv zT1 zT0 (by (try simp only [go_sem]); try rfl) (by first | rfl | exact HL.ints_flat _ | exact HL.bools_flat _) (by rfl) ?_)
  refine F_call (by (try simp only [List.map_cons, List.map_nil]); repeat (first | (apply eL1; · exact zT0) | rfl)) (by simp (disch := omega) only [thawL, Gs, hnl, hbl, HV.thaw, allIds, aget, nget, if_true, if_false, reduceIte, Nat.reduceEqDiff, stripL, HV.strip, win_intsE, win_boolsE, Nat.mul_one, List.cons_append, List.nil_append, List.append_nil, I, Bl, T3, List.getD_cons_zero, List.getD_cons_succ, HL.ints_strip, HL.bools_strip, trip_strip]; try rfl) (ht_grank nd bad g) ?_
  rintro _ ⟨rank', rfl, hR'⟩
  refine ⟨(by simp only [refFreeL, HV.refFree, noRdL, HV.noRd, HL.ints_noRd, HL.bools_noRd, trip_noRd, Bool.or_true, Bool.true_or, Bool.or_false, Bool.false_or, Bool.and_true, Bool.true_and, Bool.and_self, List.isEmpty_nil, beq_self_eq_true, List.cons_append, List.nil_append]), _, _, _, _, _, zT4, (by decide), (by simp only [upF, upS]; try rfl), ?_⟩
  obtain rfl := hR'.unique g hR
  have hrl := hR.len
  repeat (first | refine F_mv zT0 rfl ?_ | refine F_yes (by rfl) (by rfl) ?_ | refine F_iaR (by rfl) (by rfl) (by omega) zT1 ?_ | refine F_ldR (by rfl) (by first | exact eO rfl | exact eW rfl) (by (try simp only [go_sem]); try rfl) (by (try simp only [go_sem]); first | omega | decide) (by (try simp (disch := omega) only [go_sem]); try rfl) zT0 ?_ | refine F_nil zT1 ?_ | refine F_lss (by rfl) (by rfl) zT6 ?_ | refine F_pickF (by rfl) zT0 ?_ | refine F_lenR (by rfl) ?_ | refine hx_false (by rfl) ?_ | refine hx_seq ?_ | refine hx_region ?_ | refine hx_skip ?_ | refine F_geq (by rfl) (by rfl) (by first | exact leT (by omega) | exact leF (by omega) | rfl) ?_)
  refine F_call (by (try simp only [List.map_cons, List.map_nil]); repeat (first | (apply eL1; · exact zT0) | rfl)) (by simp (disch := omega) only [thawL, Gs, hnl, hbl, HV.thaw, allIds, aget, nget, if_true, if_false, reduceIte, Nat.reduceEqDiff, stripL, HV.strip, win_intsE, win_boolsE, Nat.mul_one, List.cons_append, List.nil_append, List.append_nil, I, Bl, T3, List.getD_cons_zero, List.getD_cons_succ, HL.ints_strip, HL.bools_strip, trip_strip]; try rfl) (ht_table nd bad g) ?_
  rintro _ ⟨ds, round, rfl, hT⟩
  refine ⟨(by simp only [refFreeL, HV.refFree, noRdL, HV.noRd, HL.ints_noRd, HL.bools_noRd, trip_noRd, Bool.or_true, Bool.true_or, Bool.or_false, Bool.false_or, Bool.and_true, Bool.true_and, Bool.and_self, List.isEmpty_nil, beq_self_eq_true, List.cons_append, List.nil_append]), _, _, _, _, _, zT4, (by decide), (by simp only [upF, upS]; try rfl), ?_⟩
  have hdl := hT.len
  have hrl2 := hT.round_.len
  repeat (first | refine F_mv zT0 rfl ?_ | refine F_nil zT1 ?_ | refine F_ext (by rfl) (by (try simp only [go_sem]); first | omega | decide) zT0 ?_ | refine F_stG (by rfl) zT0 (by (try simp only [go_sem]); try rfl) (by simp only [takeL, takeC, aget, Lk.upd, if_true, if_false, reduceIte, Nat.reduceEqDiff, List.append_nil, List.nil_append, List.cons_append]; try rfl) (by first | trivial | (refine ⟨?_, ?_⟩ <;> trivial)) (by rfl) (by first | exact Nat.zero_lt_one | decide) (by rfl) (by simp only [Lk.upd, aget, if_true, if_false, reduceIte, Nat.reduceEqDiff, reduceCtorEq]; try rfl) (by (try simp only [go_sem]); try rfl) (by (try simp only [go_sem]); first | omega | decide) (by (try simp (disch := omega) only [go_sem]); try rfl) (by (try simp only [go_sem]); try rfl) (by simp only [upF, List.cons_append, List.nil_append, List.append_nil, List.map_cons, List.map_nil, HV.kill, killL, List.length_nil, List.length_cons, Nat.reduceEqDiff, Nat.reduceLT, Nat.reduceAdd, if_true, if_false, reduceIte, and_true, true_and, and_false, false_and, and_self, reduceCtorEq, Nat.lt_irrefl]; try rfl) ?_ | refine F_newz zT1 ?_)
  have hN : stripL (rowsI (nd.map nl)) = rowsI (nd.map nl) := rowsI_strip _
  have hB : stripL (HL.bools bad) = HL.bools bad := HL.bools_strip _
  have hZ : stripL (rowsZ ds) = rowsI ds := rowsZ_strip _
  have hI : stripL (HL.ints round) = HL.ints round := HL.ints_strip _
  refine hx_dropN [2, 3, 4, 7, 8, 9] (⟨[(2, .int .i64 i), (3, .pref 0 [] 0), (4, .pref 1 [] 0), (7, .ref 2 [] 1 0 nd.length), (8, .pref 3 [] 0), (9, .pref 4 [] 0)], [(0, .optr [.sl nd.length (rowsI (nd.map nl))]), (1, .optr [.sl nd.length (HL.bools bad)]), (2, .osl 1 nd.length (HL.ints rank')), (3, .optr [.osl 1 nd.length (rowsZ ds)]), (4, .optr [.osl 1 nd.length (HL.ints round)])], 5⟩ : St) rfl ?_
  refine hx_freezeN 0 [2, 3, 4, 7, 8, 9] _ (congrArg (fun c : List HV => (⟨[(2, .int .i64 i), (3, .ptr [.sl nd.length c] 0), (4, .pref 0 [] 0), (7, .ref 1 [] 1 0 nd.length), (8, .pref 2 [] 0), (9, .pref 3 [] 0)], [(0, .optr [.sl nd.length (HL.bools bad)]), (1, .osl 1 nd.length (HL.ints rank')), (2, .optr [.osl 1 nd.length (rowsZ ds)]), (3, .optr [.osl 1 nd.length (HL.ints round)])], 4⟩ : St)) hN) ?_
  refine hx_freezeN 0 [2, 3, 4, 7, 8, 9] _ (congrArg (fun c : List HV => (⟨[(2, .int .i64 i), (3, .ptr [.sl nd.length (rowsI (nd.map nl))] 0), (4, .ptr [.sl nd.length c] 0), (7, .ref 0 [] 1 0 nd.length), (8, .pref 1 [] 0), (9, .pref 2 [] 0)], [(0, .osl 1 nd.length (HL.ints rank')), (1, .optr [.osl 1 nd.length (rowsZ ds)]), (2, .optr [.osl 1 nd.length (HL.ints round)])], 3⟩ : St)) hB) ?_
  refine hx_freezeN 1 [2, 3, 4, 7, 8, 9] _ (congrArg (fun c : List HV => (⟨[(2, .int .i64 i), (3, .ptr [.sl nd.length (rowsI (nd.map nl))] 0), (4, .ptr [.sl nd.length (HL.bools bad)] 0), (7, .ref 0 [] 1 0 nd.length), (8, .ptr [.sl nd.length c] 0), (9, .pref 1 [] 0)], [(0, .osl 1 nd.length (HL.ints rank')), (1, .optr [.osl 1 nd.length (HL.ints round)])], 2⟩ : St)) hZ) ?_
  refine hx_freezeN 1 [2, 3, 4, 7, 8, 9] _ (congrArg (fun c : List HV => (⟨[(2, .int .i64 i), (3, .ptr [.sl nd.length (rowsI (nd.map nl))] 0), (4, .ptr [.sl nd.length (HL.bools bad)] 0), (7, .ref 0 [] 1 0 nd.length), (8, .ptr [.sl nd.length (rowsI ds)] 0), (9, .ptr [.sl nd.length c] 0)], [(0, .osl 1 nd.length (HL.ints rank'))], 1⟩ : St)) hI) ?_
  refine hx_seq ?_
  refine hx_region ?_
  refine F_mkfn (by (try simp only [List.map_cons, List.map_nil]); repeat (first | (apply eL1; · exact zT0) | rfl)) ?_
  repeat (first | refine F_mv zT0 rfl ?_ | refine F_nil zT1 ?_ | refine hx_seq ?_ | refine hx_region ?_ | refine F_bsl zT1 (by (try simp only [List.map_cons, List.map_nil]); repeat (first | (apply eL1; · exact zT0) | rfl)) (by (try simp only [go_sem]); try rfl) (by first | rfl | exact HL.ints_flat _ | exact HL.bools_flat _) (by rfl) (by rfl) ?_)
  refine F_callv (by rfl) (by (try simp only [List.map_cons, List.map_nil]); repeat (first | (apply eL1; · exact zT0) | rfl)) (by simp (disch := omega) only [thawL, Gs, hnl, hbl, hdl, hrl2, HV.thaw, allIds, aget, nget, if_true, if_false, reduceIte, Nat.reduceEqDiff, stripL, HV.strip, win_intsE, win_boolsE, Nat.mul_one, List.cons_append, List.nil_append, List.append_nil, I, Bl, T3, List.getD_cons_zero, List.getD_cons_succ, HL.ints_strip, HL.bools_strip, trip_strip]; try rfl) (ht_rest nd bad ds round g hT i hi) ?_
  rintro _ ⟨total, rfl, hW⟩
  refine ⟨(by simp only [refFreeL, HV.refFree, noRdL, HV.noRd, HL.ints_noRd, HL.bools_noRd, trip_noRd, Bool.or_true, Bool.true_or, Bool.or_false, Bool.false_or, Bool.and_true, Bool.true_and, Bool.and_self, List.isEmpty_nil, beq_self_eq_true, List.cons_append, List.nil_append]), _, _, _, _, _, zT4, (by decide), (by simp only [upF, upS]; try rfl), ?_⟩
  repeat (first | refine F_mv zT0 rfl ?_ | refine F_nil zT1 ?_ | refine hx_seq ?_ | refine hx_block ?_)
  have hwt := hW.top
  have hwl := hW.low
  have hP0 : Pth nd bad ds round rank' i total [i] := Pth.first hi hir (RR.rest hW)
  refine hx_loopG [3, 7, 8, 10, 11, 12] (fun path : List Nat => Pth nd bad ds round rank' i total path ∧ (path.length : Int) ≤ total + 1)
    (fun path => ⟨[(3, .ptr [.sl nd.length (rowsI (nd.map nl))] 0), (7, .ref 0 [] 1 0 nd.length), (8, .ptr [.sl nd.length (rowsI ds)] 0), (10, .fn 34 [.ptr [.sl nd.length (rowsI (nd.map nl))] 0, .ptr [.sl nd.length (rowsI ds)] 0, .ptr [.sl nd.length (HL.bools bad)] 0, .ptr [.sl nd.length (HL.ints round)] 0]), (11, .ref 1 [] 1 0 path.length), (12, .int .i64 total)], [(0, .osl 1 nd.length (HL.ints rank')), (1, .osl 1 path.length (HL.ints (nl path)))], 2⟩)
    (fun path => (total + 1 - path.length).toNat) [i] ⟨hP0, by simp; omega⟩ rfl ?_
  clear hP0
  rintro path ⟨hP, hle⟩
  have hpl := hP.pos
  have hnp := nl_len path
  by_cases hlt : (path.length : Int) ≤ total
  · have hto : ((path.length : Int) - 1).toNat = path.length - 1 := by omega
    obtain ⟨p, hq⟩ : ∃ p, path.getD (path.length - 1) 0 = p := ⟨_, rfl⟩
    have hpn : p < nd.length := by rw [← hq]; exact (hP.lt _ (getD_mem path _ 0 (by omega))).1
    have hrw := nl_len (nd.getD p [])
    have hgl := g.len p
    repeat (first | refine F_mv zT0 rfl ?_ | refine F_nil zT1 ?_ | refine F_lenR (by rfl) ?_ | refine hx_true (by rfl) ?_ | refine hx_seq ?_ | refine hx_region ?_ | refine hx_block ?_ | refine hx_skip ?_ | refine F_sub (by rfl) (by rfl) zT11 ?_ | refine F_leq (by rfl) (by rfl) (by first | exact leT (by omega) | exact leF (by omega) | rfl) ?_)
    refine hx_draw (by kernel_rfl) (by kernel_rfl) (fun _ _ _ => False) ?_
    repeat (first | refine F_mv zT0 rfl ?_ | refine F_iaS (by rfl) (by rfl) (by omega) zT1 ?_ | refine F_iaR (by rfl) (by rfl) (by omega) zT1 ?_ | refine F_ldP (by rfl) (by (try simp only [go_sem]); first | omega | decide) (by (try simp (disch := omega) only [go_sem, nl_getD, hto, hq]); try rfl) ?_ | refine F_ldR (by rfl) (by first | exact eO rfl | exact eW rfl) (by (try simp (disch := omega) only [go_sem, reduceIte, Nat.reduceEqDiff, Nat.reduceAdd, Nat.reduceMul, nl_getD, hto, hq]); try rfl) (by (try simp only [go_sem]); first | omega | decide) (by (try simp (disch := omega) only [go_sem, nl_getD, hto, hq]); try rfl) zT0 ?_ | refine F_nil zT1 ?_ | refine F_lenR (by rfl) ?_ | refine F_lenS (by rfl) ?_ | refine hx_block ?_ | refine F_sub (by rfl) (by rfl) (by (try simp (disch := omega) only [go_sem, Int.reduceAdd, Int.reduceSub, Int.reduceMul, nl_getD, hto, hq]); try rfl) ?_)
    refine hx_loopG [3, 7, 8, 10, 11, 12, 13, 65, 66, 67] (fun e : Nat => e ≤ (nd.getD p []).length ∧ ∀ q, q < e → ¬ RR nd bad ds round ((nd.getD p []).getD q 0) path (total - path.length))
      (fun e => ⟨[(3, .ptr [.sl nd.length (rowsI (nd.map nl))] 0), (7, .ref 0 [] 1 0 nd.length), (8, .ptr [.sl nd.length (rowsI ds)] 0), (10, .fn 34 [.ptr [.sl nd.length (rowsI (nd.map nl))] 0, .ptr [.sl nd.length (rowsI ds)] 0, .ptr [.sl nd.length (HL.bools bad)] 0, .ptr [.sl nd.length (HL.ints round)] 0]), (11, .ref 1 [] 1 0 path.length), (12, .int .i64 total), (13, .int .i64 (total - path.length)), (65, .sl (nd.getD p []).length (HL.ints (nl (nd.getD p [])))), (66, .int .i64 (nd.getD p []).length), (67, .int .i64 e)], [(0, .osl 1 nd.length (HL.ints rank')), (1, .osl 1 path.length (HL.ints (nl path)))], 2⟩)
      (fun e => (nd.getD p []).length - e) 0 ⟨by simp, fun q hq => absurd hq (by simp)⟩ rfl ?_
    rintro e ⟨he, hno⟩
    by_cases hel : e < (nd.getD p []).length
    · obtain ⟨v, hv⟩ : ∃ v, (nd.getD p []).getD e 0 = v := ⟨_, rfl⟩
      have hvn : v < nd.length := by rw [← hv]; exact g.lt p _ (getD_mem _ _ 0 hel)
      have hpathr : ∀ x ∈ path, x < nd.length ∧ rank'.getD x 0 < 0 := hP.lt
      by_cases hvr : 0 ≤ rank'.getD v 0
      · repeat (first | refine F_mv zT0 rfl ?_ | refine F_iaS (by rfl) (by rfl) (by omega) zT1 ?_ | refine F_iaR (by rfl) (by rfl) (by omega) zT1 ?_ | refine F_ldP (by rfl) (by (try simp only [go_sem]); first | omega | decide) (by (try simp (disch := omega) only [go_sem, hv]); try rfl) ?_ | refine F_ldR (by rfl) (by first | exact eO rfl | exact eW rfl) (by (try simp (disch := omega) only [go_sem, reduceIte, Nat.reduceEqDiff, Nat.reduceAdd, Nat.reduceMul, hv]); try rfl) (by (try simp only [go_sem]); first | omega | decide) (by (try simp (disch := omega) only [go_sem, hv]); try rfl) zT0 ?_ | refine F_nil zT1 ?_ | refine F_lss (by rfl) (by rfl) zT6 ?_ | refine F_add (by rfl) (by rfl) (by (try simp (disch := omega) only [go_sem, Int.reduceAdd, Int.reduceSub, Int.reduceMul, hv]); try rfl) ?_ | refine hx_exitS (by rfl) ?_ | refine hx_true (by rfl) ?_ | refine hx_seq ?_ | refine hx_region ?_ | refine hx_block ?_ | refine hx_skip ?_ | refine F_geq (by rfl) (by rfl) (by first | exact leT (by omega) | exact leF (by omega) | rfl) ?_)
        exact hx_lG [3, 7, 8, 10, 11, 12, 13, 65, 66, 67] (e + 1) ⟨hel, fun q hq2 => by
          by_cases e1 : q = e
          · subst e1; rw [hv]; exact fun hr => by have := hr.open_ g hT hR hvn hpathr (by omega); omega
          · exact hno q (by omega)⟩ (by omega) rfl
      · repeat (first | refine F_mv zT0 rfl ?_ | refine F_iaS (by rfl) (by rfl) (by omega) zT1 ?_ | refine F_iaR (by rfl) (by rfl) (by omega) zT1 ?_ | refine F_ldP (by rfl) (by (try simp only [go_sem]); first | omega | decide) (by (try simp (disch := omega) only [go_sem, hv]); try rfl) ?_ | refine F_ldR (by rfl) (by first | exact eO rfl | exact eW rfl) (by (try simp (disch := omega) only [go_sem, reduceIte, Nat.reduceEqDiff, Nat.reduceAdd, Nat.reduceMul, hv]); try rfl) (by (try simp only [go_sem]); first | omega | decide) (by (try simp (disch := omega) only [go_sem, hv]); try rfl) zT0 ?_ | refine F_nil zT1 ?_ | refine F_lss (by rfl) (by rfl) zT6 ?_ | refine hx_true (by rfl) ?_ | refine hx_false (by rfl) ?_ | refine hx_seq ?_ | refine hx_region ?_ | refine hx_block ?_ | refine hx_skip ?_ | refine F_geq (by rfl) (by rfl) (by first | exact leT (by omega) | exact leF (by omega) | rfl) ?_)
        refine F_callv (by rfl) (by (try simp only [List.map_cons, List.map_nil]); repeat (first | (apply eL1; · exact zT0) | rfl)) (by simp (disch := omega) only [thawL, Gs, hnl, hbl, hdl, hrl2, HV.thaw, allIds, aget, nget, if_true, if_false, reduceIte, Nat.reduceEqDiff, stripL, HV.strip, win_intsE, win_boolsE, Nat.mul_one, List.cons_append, List.nil_append, List.append_nil, I, Bl, T3, List.getD_cons_zero, List.getD_cons_succ, HL.ints_strip, HL.bools_strip, trip_strip]; try rfl) (ht_rest nd bad ds round g hT v hvn) ?_
        rintro _ ⟨n0, rfl, hW2⟩
        refine ⟨(by simp only [refFreeL, HV.refFree, noRdL, HV.noRd, HL.ints_noRd, HL.bools_noRd, trip_noRd, Bool.or_true, Bool.true_or, Bool.or_false, Bool.false_or, Bool.and_true, Bool.true_and, Bool.and_self, List.isEmpty_nil, beq_self_eq_true, List.cons_append, List.nil_append]), _, _, _, _, _, zT4, (by decide), (by simp only [upF, upS]; try rfl), ?_⟩
        repeat (first | refine F_mv zT0 rfl ?_ | refine F_nil zT1 ?_ | refine F_lenR (by rfl) ?_ | refine hx_seq ?_ | refine hx_region ?_ | refine hx_block ?_)
        have hvl := (hT.dist v hvn).len
        have hvlow := (hT.dist v hvn).low
        obtain ⟨dv, hdv⟩ : ∃ dv, ds.getD v [] = dv := ⟨_, rfl⟩
        rw [hdv] at hvl hvlow
        have hdd : ∀ x, dd ds v x = dv.getD x 0 := fun x => by unfold dd; rw [hdv]
        refine hx_loopG [3, 7, 8, 10, 11, 12, 13, 15, 16, 65, 66, 67, 79, 80, 81] (fun s : Nat × Int => s.1 ≤ path.length ∧ RR nd bad ds round v (path.take s.1) s.2)
          (fun s => ⟨[(3, .ptr [.sl nd.length (rowsI (nd.map nl))] 0), (7, .ref 0 [] 1 0 nd.length), (8, .ptr [.sl nd.length (rowsI ds)] 0), (10, .fn 34 [.ptr [.sl nd.length (rowsI (nd.map nl))] 0, .ptr [.sl nd.length (rowsI ds)] 0, .ptr [.sl nd.length (HL.bools bad)] 0, .ptr [.sl nd.length (HL.ints round)] 0]), (11, .ref 1 [] 1 0 path.length), (12, .int .i64 total), (13, .int .i64 (total - path.length)), (15, .int .i64 v), (16, .int .i64 s.2), (65, .sl (nd.getD p []).length (HL.ints (nl (nd.getD p [])))), (66, .int .i64 (nd.getD p []).length), (67, .int .i64 e), (79, .ref 1 [] 1 0 path.length), (80, .int .i64 path.length), (81, .int .i64 s.1)], [(0, .osl 1 nd.length (HL.ints rank')), (1, .osl 1 path.length (HL.ints (nl path)))], 2⟩)
          (fun s => path.length - s.1) (0, n0) ⟨by simp, RR.rest hW2⟩ rfl ?_
        clear hW2
        clear n0
        rintro ⟨k, m⟩ ⟨hk, hRR⟩
        simp only at hk hRR ⊢
        have hmt := hRR.top
        have hml := hRR.low
        by_cases hkl : k < path.length
        · obtain ⟨x, hx⟩ : ∃ x, path.getD k 0 = x := ⟨_, rfl⟩
          have hxn : x < nd.length := by rw [← hx]; exact (hP.lt _ (getD_mem path _ 0 hkl)).1
          have hadd := hRR.add x
          rw [← hx, ← take_succ_getD path k 0 hkl, hx, hdd] at hadd
          have hxl := hvlow x hxn
          by_cases h0 : 0 ≤ dv.getD x 0
          · rw [if_pos h0] at hadd
            generalize hz : (if dv.getD x 0 < m then dv.getD x 0 else m) = z at hadd
            repeat (first | refine F_mv zT0 rfl ?_ | refine F_iaS (by rfl) (by rfl) (by omega) zT1 ?_ | refine F_iaR (by rfl) (by rfl) (by omega) zT1 ?_ | refine F_ldP (by rfl) (by (try simp only [go_sem]); first | omega | decide) (by (try simp (disch := omega) only [go_sem, hx, hdv, hz]); try rfl) ?_ | refine F_ldR (by rfl) (by first | exact eO rfl | exact eW rfl) (by (try simp (disch := omega) only [go_sem, reduceIte, Nat.reduceEqDiff, Nat.reduceAdd, Nat.reduceMul, hx, hdv, hz]); try rfl) (by (try simp only [go_sem]); first | omega | decide) (by (try simp (disch := omega) only [go_sem, hx, hdv, hz]); try rfl) zT0 ?_ | refine F_nil zT1 ?_ | refine F_lss (by rfl) (by rfl) zT6 ?_ | refine F_add (by rfl) (by rfl) (by (try simp (disch := omega) only [go_sem, Int.reduceAdd, Int.reduceSub, Int.reduceMul, hx, hdv, hz]); try rfl) ?_ | refine hx_true (by rfl) ?_ | refine hx_seq ?_ | refine hx_region ?_ | refine hx_block ?_ | refine hx_b ?_ | refine hx_skip ?_ | refine F_geq (by rfl) (by rfl) (by first | exact leT (by omega) | exact leF (by omega) | rfl) ?_ | refine F_mm (by rfl) (by rfl) (by (try simp only [go_sem, reduceIte, hx, hdv, hz]); try rfl) ?_)
            exact hx_lG [3, 7, 8, 10, 11, 12, 13, 15, 16, 65, 66, 67, 79, 80, 81] (k + 1, z) ⟨hkl, hadd⟩ (by simp only; omega) rfl
          · rw [if_neg h0] at hadd
            repeat (first | refine F_mv zT0 rfl ?_ | refine F_iaS (by rfl) (by rfl) (by omega) zT1 ?_ | refine F_iaR (by rfl) (by rfl) (by omega) zT1 ?_ | refine F_ldP (by rfl) (by (try simp only [go_sem]); first | omega | decide) (by (try simp (disch := omega) only [go_sem, hx, hdv]); try rfl) ?_ | refine F_ldR (by rfl) (by first | exact eO rfl | exact eW rfl) (by (try simp (disch := omega) only [go_sem, reduceIte, Nat.reduceEqDiff, Nat.reduceAdd, Nat.reduceMul, hx, hdv]); try rfl) (by (try simp only [go_sem]); first | omega | decide) (by (try simp (disch := omega) only [go_sem, hx, hdv]); try rfl) zT0 ?_ | refine F_nil zT1 ?_ | refine F_lss (by rfl) (by rfl) zT6 ?_ | refine F_add (by rfl) (by rfl) (by (try simp (disch := omega) only [go_sem, Int.reduceAdd, Int.reduceSub, Int.reduceMul, hx, hdv]); try rfl) ?_ | refine hx_true (by rfl) ?_ | refine hx_false (by rfl) ?_ | refine hx_seq ?_ | refine hx_region ?_ | refine hx_block ?_ | refine hx_b ?_ | refine hx_skip ?_ | refine F_geq (by rfl) (by rfl) (by first | exact leT (by omega) | exact leF (by omega) | rfl) ?_)
            exact hx_lG [3, 7, 8, 10, 11, 12, 13, 15, 16, 65, 66, 67, 79, 80, 81] (k + 1, m) ⟨hkl, hadd⟩ (by simp only; omega) rfl
        · obtain rfl : k = path.length := by omega
          rw [List.take_length] at hRR
          by_cases hm : m = total - path.length
          · subst hm
            repeat (first | refine F_mv zT0 rfl ?_ | refine F_nil zT1 ?_ | refine F_lss (by rfl) (by rfl) zT6 ?_ | refine F_eql (by rfl) (by rfl) (by first | exact eqT (by omega) | exact eqF (by omega) | rfl) ?_ | refine hx_exitS (by rfl) ?_ | refine hx_true (by rfl) ?_ | refine hx_false (by rfl) ?_ | refine hx_seq ?_ | refine hx_region ?_ | refine hx_b ?_ | refine F_bsl zT1 (by (try simp only [List.map_cons, List.map_nil]); repeat (first | (apply eL1; · exact zT0) | rfl)) (by (try simp only [go_sem]); try rfl) (by first | rfl | exact HL.ints_flat _ | exact HL.bools_flat _) (by rfl) (by rfl) ?_ | refine F_appR zT1 (by rfl) zT0 zT9 (by (try simp (disch := omega) only [go_sem, reduceIte, Nat.reduceEqDiff, Nat.reduceAdd, Nat.reduceMul]); try omega) (by first | exact eO rfl | exact eW rfl) (by (try simp only [go_sem]); try rfl) zT1 (by omega) (by unfold maxLen; omega) (by (try simp only [go_sem]); first | omega | decide) (by (try simp (disch := omega) only [go_sem, reduceIte, Nat.reduceEqDiff, Nat.reduceAdd, Nat.reduceMul]); try rfl) (by (try simp only [go_sem]); try rfl) ?_)
            have hPa := hP.add (e := e) (v := v) (by rw [hq]; exact hel) (by rw [hq]; exact hv) hvn (by omega) hRR (by rw [hq]; exact hno)
            exact hx_lG [3, 7, 8, 10, 11, 12] (path ++ [v]) ⟨hPa, by simp; omega⟩ (by simp; omega) (by simp only [List.length_append, List.length_cons, List.length_nil, Nat.zero_add]; rfl)
          · repeat (first | refine F_mv zT0 rfl ?_ | refine F_nil zT1 ?_ | refine F_lss (by rfl) (by rfl) zT6 ?_ | refine F_eql (by rfl) (by rfl) (by first | exact eqT (by omega) | exact eqF (by omega) | rfl) ?_ | refine F_add (by rfl) (by rfl) zT11 ?_ | refine hx_exitS (by rfl) ?_ | refine hx_false (by rfl) ?_ | refine hx_seq ?_ | refine hx_region ?_ | refine hx_b ?_ | refine hx_skip ?_)
            exact hx_lG [3, 7, 8, 10, 11, 12, 13, 65, 66, 67] (e + 1) ⟨hel, fun q hq2 => by
              by_cases e1 : q = e
              · subst e1; rw [hv]; exact fun hr => hm (hRR.unique hr)
              · exact hno q (by omega)⟩ (by omega) rfl
    · obtain rfl : e = (nd.getD p []).length := by omega
      exfalso
      obtain ⟨w, hw1, hw2⟩ := hP.next g hT hR (fun v hv => IsRest.ex hT.round_.low _ (Nat.le_refl _)) hlt
      rw [hq] at hw1
      obtain ⟨q, hq1, hq2⟩ := List.getElem_of_mem hw1
      exact hno q hq1 (by rw [List.getD_eq_getElem?_getD, List.getElem?_eq_getElem hq1, Option.getD_some, hq2]; exact hw2)
  · repeat (first | refine F_mv zT0 rfl ?_ | refine F_nil zT1 ?_ | refine F_lenR (by rfl) ?_ | refine hx_exitS (by rfl) ?_ | refine hx_false (by rfl) ?_ | refine hx_seq ?_ | refine hx_region ?_ | refine F_leq (by rfl) (by rfl) (by first | exact leT (by omega) | exact leF (by omega) | rfl) ?_)
    refine hx_retF (by (try simp only [List.map_cons, List.map_nil]); repeat (first | (apply eL1; · exact zT0) | rfl)) zT5 zT7 ?_
    exact ⟨ds, round, path, total, rfl, hT, hP, by omega⟩

end Go.Proofs.Ytjlidhijnohkbaa
