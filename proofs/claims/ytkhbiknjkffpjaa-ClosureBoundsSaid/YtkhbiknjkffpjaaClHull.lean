/-
  OWN WORK. Hull of package closure in the value language.
-/
import Derived.Test.YtkhbiknjkffpjaaClClsd
set_option linter.unusedSimpArgs false
set_option linter.unusedVariables false
namespace Go.Proofs.Ytkhbiknjkffpjaa
open Go.RowKit Go.SL Go.HL

/-- The stack's box: nothing, or a row. -/
def stk (l : List Nat) : HV := .osl 1 l.length (HL.ints (nl l))

theorem ht_push (l : List Nat) (x : Nat) (hl : l.length ≤ 100000) : HTI Try.prog 45 [.optr [stk l], .int .i64 x] [0] (fun r outs => r = .tup [] ∧ outs = [.optr [stk (l ++ [x])]]) := by
  have hln := nl_len l
  have hlx := nl_len (l ++ [x])
  have hap : HL.ints (nl l) ++ [HV.int .i64 (x : Int)] = HL.ints (nl (l ++ [x])) := by simp [HL.ints, nl]
  unfold stk
  refine HTI.of rfl fc45 (Nat.le_of_ble_eq_true rfl) 2 [0] (by rfl) (by rfl) (⟨[(0, .pref 0 [] 0), (1, .int .i64 x)], [(0, .optr [.osl 1 l.length (HL.ints (nl l))])], 1⟩ : St) rfl ?_
  unfold c45
  refine hx_region ?_
  repeat (first | refine F_mv zT0 rfl ?_ | refine F_ldR (by rfl) (by first | exact eO rfl | exact eW rfl) (by (try simp only [go_sem]); try rfl) (by (try simp only [go_sem]); first | omega | decide) (by (try simp (disch := omega) only [go_sem]); try rfl) zT0 ?_ | refine F_nil zT1 ?_ | refine F_faR (by rfl) (by rfl) ?_ | refine F_stG (by rfl) zT0 (by (try simp only [go_sem]); try rfl) (by simp only [takeL, takeC, aget, Lk.upd, if_true, if_false, reduceIte, Nat.reduceEqDiff, List.append_nil, List.nil_append, List.cons_append]; try rfl) (by first | trivial | (refine ⟨?_, ?_⟩ <;> trivial)) (by rfl) (by first | exact Nat.zero_lt_one | decide) (by rfl) (by simp only [Lk.upd, aget, if_true, if_false, reduceIte, Nat.reduceEqDiff, reduceCtorEq]; try rfl) (by (try simp only [go_sem]); try rfl) (by (try simp only [go_sem]); first | omega | decide) (by (try simp (disch := omega) only [go_sem]); try rfl) (by (try simp only [go_sem]); try rfl) (by simp only [upF, List.cons_append, List.nil_append, List.append_nil, List.map_cons, List.map_nil, HV.kill, killL, List.length_nil, List.length_cons, Nat.reduceEqDiff, Nat.reduceLT, Nat.reduceAdd, if_true, if_false, reduceIte, and_true, true_and, and_false, false_and, and_self, reduceCtorEq, Nat.lt_irrefl]; try rfl) ?_ | refine F_bsl zT1 (by (try simp only [List.map_cons, List.map_nil]); repeat (first | (apply eL1; · exact zT0) | rfl)) (by (try simp only [go_sem]); try rfl) zT10 (by rfl) (by rfl) ?_ | refine F_appR zT1 (by rfl) zT0 zT9 (by (try simp (disch := omega) only [go_sem, reduceIte, Nat.reduceEqDiff, Nat.reduceAdd, Nat.reduceMul]); try omega) (by first | exact eO rfl | exact eW rfl) (by (try simp only [go_sem]); try rfl) zT1 (by omega) (by unfold maxLen; omega) (by (try simp only [go_sem]); first | omega | decide) (by (try simp (disch := omega) only [go_sem, reduceIte, Nat.reduceEqDiff, Nat.reduceAdd, Nat.reduceMul]); try rfl) (by (try simp only [go_sem]); try rfl) ?_ | refine F_nilck zT0 rfl ?_)
  refine hx_endF (rs := [0]) (by (try simp only [List.map_cons, List.map_nil]); repeat (first | (apply eL1; · exact zT0) | rfl)) zT12 zT7 ?_
  exact ⟨_, rfl, rfl, by simp, rfl, by rw [show (l ++ [x]).length = l.length + 1 by simp]; rfl⟩

theorem ht_push0 (x : Nat) : HTI Try.prog 45 [.optr [.nils], .int .i64 x] [0] (fun r outs => r = .tup [] ∧ outs = [.optr [stk [x]]]) := by
  unfold stk
  refine HTI.of rfl fc45 (Nat.le_of_ble_eq_true rfl) 2 [0] (by rfl) (by rfl) (⟨[(0, .pref 0 [] 0), (1, .int .i64 x)], [(0, .optr [.nils])], 1⟩ : St) rfl ?_
  unfold c45
  refine hx_region ?_
  repeat (first | refine F_mv zT0 rfl ?_ | refine F_ldR (by rfl) (by first | exact eO rfl | exact eW rfl) (by (try simp only [go_sem]); try rfl) (by (try simp only [go_sem]); first | omega | decide) (by (try simp (disch := omega) only [go_sem]); try rfl) zT0 ?_ | refine F_nil zT1 ?_ | refine F_faR (by rfl) (by rfl) ?_ | refine F_stG (by rfl) zT0 (by (try simp only [go_sem]); try rfl) (by simp only [takeL, takeC, aget, Lk.upd, if_true, if_false, reduceIte, Nat.reduceEqDiff, List.append_nil, List.nil_append, List.cons_append]; try rfl) (by first | trivial | (refine ⟨?_, ?_⟩ <;> trivial)) (by rfl) (by first | exact Nat.zero_lt_one | decide) (by rfl) (by simp only [Lk.upd, aget, if_true, if_false, reduceIte, Nat.reduceEqDiff, reduceCtorEq]; try rfl) (by (try simp only [go_sem]); try rfl) (by (try simp only [go_sem]); first | omega | decide) (by (try simp (disch := omega) only [go_sem]); try rfl) (by (try simp only [go_sem]); try rfl) (by simp only [upF, List.cons_append, List.nil_append, List.append_nil, List.map_cons, List.map_nil, HV.kill, killL, List.length_nil, List.length_cons, Nat.reduceEqDiff, Nat.reduceLT, Nat.reduceAdd, if_true, if_false, reduceIte, and_true, true_and, and_false, false_and, and_self, reduceCtorEq, Nat.lt_irrefl]; try rfl) ?_ | refine F_bsl zT1 (by (try simp only [List.map_cons, List.map_nil]); repeat (first | (apply eL1; · exact zT0) | rfl)) (by (try simp only [go_sem]); try rfl) zT10 (by rfl) (by rfl) ?_ | refine F_appN zT1 (by rfl) zT0 zT9 (by (try simp (disch := omega) only [go_sem, reduceIte, Nat.reduceEqDiff, Nat.reduceAdd, Nat.reduceMul]); try omega) (by omega) (by unfold maxLen; omega) ?_ | refine F_nilck zT0 rfl ?_)
  refine hx_endF (rs := [0]) (by (try simp only [List.map_cons, List.map_nil]); repeat (first | (apply eL1; · exact zT0) | rfl)) zT12 zT7 ?_
  exact ⟨_, rfl, rfl, by simp, rfl, rfl⟩

theorem ht_pop (l : List Nat) (x : Nat) (hl : l.length ≤ 100000) : HTI Try.prog 46 [.optr [stk (l ++ [x])]] [0] (fun r outs => r = .int .i64 x ∧ outs = [.optr [stk l]]) := by
  have hln := nl_len l
  have hlx := nl_len (l ++ [x])
  unfold stk
  refine HTI.of rfl fc46 (Nat.le_of_ble_eq_true rfl) 1 [0] (by rfl) (by rfl) (⟨[(0, .pref 0 [] 0)], [(0, .optr [.osl 1 (l ++ [x]).length (HL.ints (nl (l ++ [x])))])], 1⟩ : St) rfl ?_
  unfold c46
  have hl1 : (l ++ [x]).length = l.length + 1 := by simp
  have hx : (l ++ [x]).getD l.length 0 = x := by simp
  rw [hl1]
  repeat (first | refine F_mv zT0 rfl ?_ | refine F_nil zT1 ?_ | refine hx_seq ?_ | refine hx_region ?_)
  refine hx_draw (by kernel_rfl) (by kernel_rfl) (fun _ _ _ => False) ?_
  repeat (first | refine F_mv zT0 rfl ?_ | refine F_iaR (by rfl) (by rfl) (by omega) zT1 ?_ | refine F_ldR (by rfl) (by first | exact eO rfl | exact eW rfl) (by (try simp only [go_sem]); try rfl) (by (try simp only [go_sem]); first | omega | decide) (by (try simp (disch := omega) only [go_sem]); try rfl) zT0 ?_ | refine F_nil zT1 ?_ | refine F_lenR (by rfl) ?_ | refine F_sub (by rfl) (by rfl) zT11 ?_ | refine F_faR (by rfl) (by rfl) ?_ | refine F_nilck zT0 rfl ?_)
  have hto : ((l.length + 1 : Nat) : Int) - 1 = l.length := by omega
  have hto2 : (((l.length + 1 : Nat) : Int) - 1).toNat = l.length := by omega
  rw [hto2, hx]
  refine hx_seq ?_
  refine hx_split 12 (by kernel_rfl) (by kernel_rfl) (by kernel_rfl) (fun _ _ _ => False) ?_
  simp only [List.take_succ_cons, List.take_zero, List.drop_succ_cons, List.drop_zero]
  repeat (first | refine F_mv zT0 rfl ?_ | refine F_ldR (by rfl) (by first | exact eO rfl | exact eW rfl) (by (try simp only [go_sem]); try rfl) (by (try simp only [go_sem]); first | omega | decide) (by (try simp (disch := omega) only [go_sem]); try rfl) zT0 ?_ | refine F_nil zT1 ?_ | refine F_lenR (by rfl) ?_ | refine F_sub (by rfl) (by rfl) zT11 ?_ | refine F_faR (by rfl) (by rfl) ?_ | refine F_slcR (by rfl) (by rfl) (by rfl) (by omega) (by (try simp only [go_sem]); try rfl) zT1 ?_ | refine F_nilck zT0 rfl ?_)
  have htk : (HL.ints (nl (l ++ [x]))).take (l.length * 1) = HL.ints (nl l) := by simp [HL.ints, nl]
  rw [hto2]
  refine hx_detachG 27 [0, 3, 16, 27] (⟨[(0, .pref 0 [] 0), (3, .int .i64 x), (16, .pref 0 [] 0), (27, .ref 1 [] 1 0 l.length)], [(0, .optr [.dead]), (1, .osl 1 l.length (HL.ints (nl l)))], 2⟩ : St) rfl rfl rfl (by omega) (HL.ints_flat _) (by decide) (by rw [htk]; rfl) ?_
  repeat (first | refine F_mv zT0 rfl ?_ | refine F_nil zT1 ?_ | refine hx_seq ?_ | refine hx_region ?_ | refine F_faR (by rfl) (by rfl) ?_ | refine F_stG (by rfl) zT0 (by (try simp only [go_sem]); try rfl) (by simp only [takeL, takeC, aget, Lk.upd, if_true, if_false, reduceIte, Nat.reduceEqDiff, List.append_nil, List.nil_append, List.cons_append]; try rfl) (by first | trivial | (refine ⟨?_, ?_⟩ <;> trivial)) (by rfl) (by first | exact Nat.zero_lt_one | decide) (by rfl) (by simp only [Lk.upd, aget, if_true, if_false, reduceIte, Nat.reduceEqDiff, reduceCtorEq]; try rfl) (by (try simp only [go_sem]); try rfl) (by (try simp only [go_sem]); first | omega | decide) (by (try simp (disch := omega) only [go_sem]); try rfl) (by (try simp only [go_sem]); try rfl) (by simp only [upF, List.cons_append, List.nil_append, List.append_nil, List.map_cons, List.map_nil, HV.kill, killL, List.length_nil, List.length_cons, Nat.reduceEqDiff, Nat.reduceLT, Nat.reduceAdd, if_true, if_false, reduceIte, and_true, true_and, and_false, false_and, and_self, reduceCtorEq, Nat.lt_irrefl]; try rfl) ?_ | refine F_nilck zT0 rfl ?_)
  refine hx_retF (rs := [2, 0]) (by (try simp only [List.map_cons, List.map_nil]); repeat (first | (apply eL1; · exact zT0) | rfl)) zT12 zT7 ?_
  exact ⟨_, rfl, rfl, by simp, rfl, rfl⟩
end Go.Proofs.Ytkhbiknjkffpjaa
