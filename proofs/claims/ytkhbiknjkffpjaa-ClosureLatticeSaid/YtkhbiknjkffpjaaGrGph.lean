/-
  OWN WORK. The reference's small graphs in the value language.
-/
import Derived.Test.YtkhbiknjkffpjaaGrBig
set_option linter.unusedSimpArgs false
set_option linter.unusedVariables false
namespace Go.Proofs.Ytkhbiknjkffpjaa
open Go.RowKit Go.SL Go.HL

set_option maxHeartbeats 4000000 in
theorem ht_ggraph (l : List Int) (hl : l.length ≤ 9223372036854775807) : HT Try.prog 11 [I l] (fun r => ∃ nd bad, r = .tup [.osl 1 nd.length (rowsO nd), .osl 1 nd.length (HL.bools bad)] ∧ nd.length ≤ 9 ∧ Gr nd bad ∧ ∀ i, (nd.getD i []).length ≤ 3) := by
  refine HT.of rfl fc11 (Nat.le_of_ble_eq_true rfl) ?_
  unfold c11
  simp only [I, argSlots, Nat.reduceAdd]
  repeat (first | refine F_mv (by first | exact eI rfl | exact eB rfl | exact eR rfl | exact eS rfl | exact eP rfl | exact eT rfl | exact eA rfl | exact eN rfl | exact eQ rfl | exact eF rfl | exact eD rfl) rfl ?_ | refine F_nil (by (try simp only [go_sem, reduceIte, Nat.reduceEqDiff, Nat.reduceAdd, Nat.reduceMul]); try rfl) ?_ | refine hx_seq ?_ | refine hx_region ?_ | refine F_mvnil rfl (by rfl) (by (try simp only [go_sem, reduceIte, Nat.reduceEqDiff, Nat.reduceAdd, Nat.reduceMul]); try rfl) ?_)
  refine F_call (by (try simp only [List.map_cons, List.map_nil]); repeat (first | (apply eL1; · exact (by first | exact eI rfl | exact eB rfl | exact eR rfl | exact eS rfl | exact eP rfl | exact eT rfl | exact eA rfl | exact eN rfl | exact eQ rfl | exact eF rfl | exact eD rfl)) | rfl)) (by simp (disch := omega) only [thawL, HV.thaw, allIds, aget, nget, if_true, if_false, reduceIte, Nat.reduceEqDiff, stripL, HV.strip, win_intsE, win_boolsE, win_edgesE, Nat.mul_one, List.cons_append, List.nil_append, List.append_nil, I, Bl, T3, Es, List.getD_cons_zero, List.getD_cons_succ, HL.ints_strip, HL.bools_strip, trip_strip, edges_strip]; try rfl) (ht_gnum l 0 (by omega) (by omega) hl) ?_
  rintro _ ⟨x, rfl, hx1, hx2⟩
  refine ⟨(by simp only [refFreeL, HV.refFree, noRdL, HV.noRd, HL.ints_noRd, HL.bools_noRd, trip_noRd, edges_noRd, Bool.or_true, Bool.true_or, Bool.or_false, Bool.false_or, Bool.and_true, Bool.true_and, Bool.and_self, List.isEmpty_nil, beq_self_eq_true, List.cons_append, List.nil_append]), _, _, _, _, _, (by simp only [unpack, unpackL, List.append_nil, List.nil_append, List.cons_append, stride, Nat.reduceAdd, Nat.reduceMul, Nat.zero_add]; try rfl), (by decide), (by simp only [upF, upS]; try rfl), ?_⟩
  skip
  refine F_call (by (try simp only [List.map_cons, List.map_nil]); repeat (first | (apply eL1; · exact (by first | exact eI rfl | exact eB rfl | exact eR rfl | exact eS rfl | exact eP rfl | exact eT rfl | exact eA rfl | exact eN rfl | exact eQ rfl | exact eF rfl | exact eD rfl)) | rfl)) (by simp (disch := omega) only [thawL, HV.thaw, allIds, aget, nget, if_true, if_false, reduceIte, Nat.reduceEqDiff, stripL, HV.strip, win_intsE, win_boolsE, win_edgesE, Nat.mul_one, List.cons_append, List.nil_append, List.append_nil, I, Bl, T3, Es, List.getD_cons_zero, List.getD_cons_succ, HL.ints_strip, HL.bools_strip, trip_strip, edges_strip]; try rfl) (ht_gmod x 10 (by omega) (by omega)) ?_
  rintro _ rfl
  have e0 := Int.emod_nonneg x (show (10 : Int) ≠ 0 by omega)
  have e1 := Int.emod_lt_of_pos x (show (0 : Int) < 10 by omega)
  obtain ⟨m, hm⟩ : ∃ m : Nat, (m : Int) = x % 10 := ⟨(x % 10).toNat, by omega⟩
  rw [← hm] at e0 e1 ⊢
  refine ⟨(by simp only [refFreeL, HV.refFree, noRdL, HV.noRd, HL.ints_noRd, HL.bools_noRd, trip_noRd, edges_noRd, Bool.or_true, Bool.true_or, Bool.or_false, Bool.false_or, Bool.and_true, Bool.true_and, Bool.and_self, List.isEmpty_nil, beq_self_eq_true, List.cons_append, List.nil_append]), _, _, _, _, _, (by simp only [unpack, unpackL, List.append_nil, List.nil_append, List.cons_append, stride, Nat.reduceAdd, Nat.reduceMul, Nat.zero_add]; try rfl), (by decide), (by simp only [upF, upS]; try rfl), ?_⟩
  clear hm
  skip
  refine F_call (by (try simp only [List.map_cons, List.map_nil]); repeat (first | (apply eL1; · exact (by first | exact eI rfl | exact eB rfl | exact eR rfl | exact eS rfl | exact eP rfl | exact eT rfl | exact eA rfl | exact eN rfl | exact eQ rfl | exact eF rfl | exact eD rfl)) | rfl)) (by simp (disch := omega) only [thawL, HV.thaw, allIds, aget, nget, if_true, if_false, reduceIte, Nat.reduceEqDiff, stripL, HV.strip, win_intsE, win_boolsE, win_edgesE, Nat.mul_one, List.cons_append, List.nil_append, List.append_nil, I, Bl, T3, Es, List.getD_cons_zero, List.getD_cons_succ, HL.ints_strip, HL.bools_strip, trip_strip, edges_strip]; try rfl) (ht_gbig l m (by omega) hl) ?_
  rintro _ ⟨nd, bad, rfl, hnm, g, hd3⟩
  refine ⟨(by simp only [refFreeL, HV.refFree, noRdL, HV.noRd, HL.ints_noRd, HL.bools_noRd, trip_noRd, edges_noRd, Bool.or_true, Bool.true_or, Bool.or_false, Bool.false_or, Bool.and_true, Bool.true_and, Bool.and_self, List.isEmpty_nil, beq_self_eq_true, List.cons_append, List.nil_append]), _, _, _, _, _, (by simp only [unpack, unpackL, List.append_nil, List.nil_append, List.cons_append, stride, Nat.reduceAdd, Nat.reduceMul, Nat.zero_add]; try rfl), (by decide), (by simp only [upF, upS]; try rfl), ?_⟩
  subst hnm
  repeat (first | refine F_mv (by first | exact eI rfl | exact eB rfl | exact eR rfl | exact eS rfl | exact eP rfl | exact eT rfl | exact eA rfl | exact eN rfl | exact eQ rfl | exact eF rfl | exact eD rfl) rfl ?_ | refine F_nil (by (try simp only [go_sem, reduceIte, Nat.reduceEqDiff, Nat.reduceAdd, Nat.reduceMul]); try rfl) ?_ | refine F_ext (by rfl) (by (try simp only [go_sem]); first | omega | decide) (by first | exact eI rfl | exact eB rfl | exact eR rfl | exact eS rfl | exact eP rfl | exact eT rfl | exact eA rfl | exact eN rfl | exact eQ rfl | exact eF rfl | exact eD rfl) ?_)
  refine hx_retF (by (try simp only [List.map_cons, List.map_nil]); repeat (first | (apply eL1; · exact (by first | exact eI rfl | exact eB rfl | exact eR rfl | exact eS rfl | exact eP rfl | exact eT rfl | exact eA rfl | exact eN rfl | exact eQ rfl | exact eF rfl | exact eD rfl)) | rfl)) (by simp only [takeDL, takeD, takeC, aget, Lk.upd, if_true, if_false, reduceIte, Nat.reduceEqDiff, List.append_nil, List.nil_append]; try rfl) (by first | trivial | (refine ⟨?_, ?_⟩ <;> trivial) | (simp only [and_true, true_and]; done)) ?_
  exact ⟨nd, bad, rfl, by omega, g, hd3⟩

end Go.Proofs.Ytkhbiknjkffpjaa
