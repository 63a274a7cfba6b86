/-
  OWN WORK. A row of -1: slices.Repeat in the value language.
-/
import Derived.Test.YtjlidhijnohkbaaGrMul
set_option linter.unusedSimpArgs false
set_option linter.unusedVariables false
namespace Go.Proofs.Ytjlidhijnohkbaa
open Go.RowKit Go.HL
set_option maxRecDepth 100000

/-- A row of which the first k elements have been written. -/
def rp (n k : Nat) : List Int := List.replicate k (-1) ++ List.replicate (n - k) 0
theorem rp_len {n k : Nat} (h : k ≤ n) : (rp n k).length = n := by simp [rp]; omega
theorem rp_zero (n : Nat) : List.replicate n (0 : Int) = rp n 0 := by simp [rp]
theorem rp_full (n : Nat) : rp n n = List.replicate n (-1) := by simp [rp]
theorem rp_set {n k : Nat} (h : k < n) : (rp n k).set k (-1) = rp n (k + 1) := by
  unfold rp
  rw [List.set_append_right _ _ (by simp)]
  obtain ⟨d, hd⟩ : ∃ d, n - k = d + 1 := ⟨n - k - 1, by omega⟩
  have hd2 : n - (k + 1) = d := by omega
  rw [hd, hd2]
  simp only [List.length_replicate, Nat.sub_self, List.replicate_succ (n := d), List.set_cons_zero]
  rw [List.replicate_succ' (n := k)]
  simp
theorem rp_fill (n : Nat) : ∀ (q k : Nat), k + q ≤ n → setFrom (HL.ints (rp n k)) k (HL.ints (List.replicate q (-1))) = HL.ints (rp n (k + q)) := by
  intro q
  induction q with
  | zero => intro k _; rfl
  | succ q ih =>
    intro k h
    have e : HL.ints (List.replicate (q + 1) (-1)) = .int .i64 (-1) :: HL.ints (List.replicate q (-1)) := by rw [List.replicate_succ]; rfl
    rw [e, setFrom, HL.ints_set, rp_set (by omega), ih (k + 1) (by omega)]
    congr 2; omega
theorem rp_win {n k : Nat} (h : k ≤ n) : win (HL.ints (rp n k)) 0 k = HL.ints (List.replicate k (-1)) := by
  unfold win
  split
  · rename_i hc
    have : k = n := by have := hc.2; rw [HL.ints_len, rp_len h] at this; exact this
    subst this; rw [rp_full]
  · have e : HL.ints (rp n k) = HL.ints (List.replicate k (-1)) ++ HL.ints (List.replicate (n - k) 0) := by simp [rp, HL.ints]
    rw [e, List.drop_zero, List.take_append_of_le_length (by simp [HL.ints]), List.take_of_length_le (by simp [HL.ints])]
theorem rp_take (k q : Nat) (h : q ≤ k) : (HL.ints (List.replicate k (-1))).take q = HL.ints (List.replicate q (-1)) := by
  simp [HL.ints, List.take_replicate]; omega
theorem u64_small : ∀ n : Nat, n < 257 → IntKind.u64.wrap (n : Int) = n := by decide +kernel

set_option maxHeartbeats 4000000 in
theorem ht_rep (n : Nat) (h0 : 0 < n) (h1 : n ≤ 256) : HT Try.prog 47 [.sl 1 [.int .i64 (-1)], .int .i64 n] (fun r => r = .osl 1 n (HL.ints (List.replicate n (-1)))) := by
  have hu := u64_small n (by omega)
  have hu1 : IntKind.u64.wrap 1 = 1 := by decide
  refine HT.of rfl fc47 (Nat.le_of_ble_eq_true rfl) ?_
  unfold c47
  simp only [argSlots, Nat.reduceAdd]
  repeat (first | refine F_mv zT0 rfl ?_ | refine F_nil zT1 ?_ | refine F_lss (by rfl) (by rfl) zT6 ?_ | refine F_lenS (by rfl) ?_ | refine hx_false (by rfl) ?_ | refine hx_seq ?_ | refine hx_region ?_ | refine hx_skip ?_ | refine F_mvnil rfl (by rfl) zT1 ?_ | refine F_conv (by rfl) (by (try simp (disch := omega) only [go_sem, Int.reduceAdd, Int.reduceSub, Int.reduceMul, hu, hu1]); try rfl) ?_)
  refine F_call (by (try simp only [List.map_cons, List.map_nil]); repeat (first | (apply eL1; · exact zT0) | rfl)) (by simp (disch := omega) only [thawL, HV.thaw, allIds, aget, nget, if_true, if_false, reduceIte, Nat.reduceEqDiff, stripL, HV.strip, win_intsE, win_boolsE, Nat.mul_one, List.cons_append, List.nil_append, List.append_nil, I, Bl, T3, List.getD_cons_zero, List.getD_cons_succ, HL.ints_strip, HL.bools_strip, trip_strip]; try rfl) (ht_mul n h0 h1) ?_
  rintro _ rfl
  refine ⟨(by simp only [refFreeL, HV.refFree, noRdL, HV.noRd, HL.ints_noRd, HL.bools_noRd, trip_noRd, Bool.or_true, Bool.true_or, Bool.or_false, Bool.false_or, Bool.and_true, Bool.true_and, Bool.and_self, List.isEmpty_nil, beq_self_eq_true, List.cons_append, List.nil_append]), _, _, _, _, _, zT4, (by decide), (by simp only [upF, upS]; try rfl), ?_⟩
  have hmin : min 1 n = 1 := by omega
  have hs1 : (List.replicate n (0 : Int)).set 0 (-1) = rp n 1 := by rw [rp_zero, rp_set (by omega)]
  have hrl : (List.replicate n (0 : Int)).length = n := by simp
  repeat (first | refine F_mv zT0 rfl ?_ | refine F_yes (by rfl) (by rfl) ?_ | refine F_nil zT1 ?_ | refine F_pickF (by rfl) zT0 ?_ | refine F_ext (by rfl) (by (try simp only [go_sem]); first | omega | decide) zT0 ?_ | refine hx_false (by rfl) ?_ | refine hx_seq ?_ | refine hx_region ?_ | refine hx_block ?_ | refine hx_skip ?_ | refine F_gtr (by rfl) (by rfl) zT6 ?_ | refine F_conv (by rfl) (by (try simp (disch := omega) only [go_sem, Int.reduceAdd, Int.reduceSub, Int.reduceMul, hmin, hs1]); try rfl) ?_ | refine F_cpy (by rfl) zT0 zT9 (by (try simp (disch := omega) only [go_sem, reduceIte, Nat.reduceEqDiff, Nat.reduceAdd, Nat.reduceMul, hmin, hs1]); try omega) (by (try simp only [go_sem, reduceIte, Nat.reduceEqDiff, Nat.reduceAdd, Nat.reduceMul, hmin, hs1]); try rfl) (by (try simp (disch := omega) only [go_sem, reduceIte, Nat.reduceEqDiff, Nat.reduceAdd, Nat.reduceMul, hmin, hs1]); try rfl) (by first | rfl | exact HL.ints_flat _ | exact HL.bools_flat _) (by omega) (by first | exact eO rfl | exact eW rfl) (by (try simp (disch := omega) only [go_sem, reduceIte, Nat.reduceEqDiff, Nat.reduceAdd, Nat.reduceMul, hmin, hs1]); try rfl) (by (try simp only [go_sem]); first | omega | decide) (by (try simp (disch := omega) only [go_sem, reduceIte, Nat.reduceEqDiff, Nat.reduceAdd, Nat.reduceMul, hmin, hs1]); try rfl) (by (try simp only [go_sem]); try rfl) ?_ | refine F_mksl zT1 (by rfl) (by omega) (by (try simp only [go_sem]); try rfl) (by (try simp only [go_sem]); try rfl) ?_)
  refine hx_loopG [7, 8] (fun k : Nat => 0 < k ∧ k ≤ n) (fun k => ⟨[(7, .ref 0 [] 1 0 n), (8, .int .i64 k)], [(0, .osl 1 n (HL.ints (rp n k)))], 1⟩) (fun k => n - k) 1 ⟨by omega, by omega⟩ rfl ?_
  rintro k ⟨hk0, hk⟩
  by_cases hkn : k < n
  · obtain ⟨q, hq, hq0, hq1, hq2⟩ : ∃ q, min k ((n : Int) - k).toNat = q ∧ 0 < q ∧ q ≤ k ∧ k + q ≤ n := ⟨_, rfl, by omega, by omega, by omega⟩
    have hfill := rp_fill n q k hq2
    have hwin := rp_win hk
    have htake := rp_take k q hq1
    have hlen := rp_len hk
    repeat (first | refine F_mv zT0 rfl ?_ | refine F_nil zT1 ?_ | refine F_lss (by rfl) (by rfl) zT6 ?_ | refine F_lenR (by rfl) ?_ | refine hx_true (by rfl) ?_ | refine hx_seq ?_ | refine hx_region ?_ | refine hx_block ?_ | refine hx_skip ?_)
    refine hx_draw (by kernel_rfl) (by kernel_rfl) (fun _ _ _ => False) ?_
    repeat (first | refine F_mv zT0 rfl ?_ | refine F_nil zT1 ?_ | refine F_add (by rfl) (by rfl) (by (try simp (disch := omega) only [go_sem, Int.reduceAdd, Int.reduceSub, Int.reduceMul, hq, hwin, htake, hfill]); try rfl) ?_ | refine hx_b ?_ | refine F_cpy (by rfl) zT0 zT9 (by (try simp (disch := omega) only [go_sem, reduceIte, Nat.reduceEqDiff, Nat.reduceAdd, Nat.reduceMul, hq, hwin, htake, hfill]); try omega) (by (try simp only [go_sem, reduceIte, Nat.reduceEqDiff, Nat.reduceAdd, Nat.reduceMul, hq, hwin, htake, hfill]); try rfl) (by (try simp (disch := omega) only [go_sem, reduceIte, Nat.reduceEqDiff, Nat.reduceAdd, Nat.reduceMul, hq, hwin, htake, hfill]); try rfl) (by first | rfl | exact HL.ints_flat _ | exact HL.bools_flat _) (by omega) (by first | exact eO rfl | exact eW rfl) (by (try simp (disch := omega) only [go_sem, reduceIte, Nat.reduceEqDiff, Nat.reduceAdd, Nat.reduceMul, hq, hwin, htake, hfill]); try rfl) (by (try simp only [go_sem]); first | omega | decide) (by (try simp (disch := omega) only [go_sem, reduceIte, Nat.reduceEqDiff, Nat.reduceAdd, Nat.reduceMul, hq, hwin, htake, hfill]); try rfl) (by (try simp only [go_sem]); try rfl) ?_ | refine F_slcR (by rfl) (by rfl) (by rfl) (by omega) (by (try simp only [go_sem]); try rfl) zT1 ?_)
    exact hx_lG [7, 8] (k + q) ⟨by omega, hq2⟩ (by omega) rfl
  · obtain rfl : k = n := by omega
    repeat (first | refine F_mv zT0 rfl ?_ | refine F_nil zT1 ?_ | refine F_lss (by rfl) (by rfl) zT6 ?_ | refine F_lenR (by rfl) ?_ | refine hx_exitS (by rfl) ?_ | refine hx_false (by rfl) ?_ | refine hx_seq ?_ | refine hx_region ?_)
    refine hx_retF (by (try simp only [List.map_cons, List.map_nil]); repeat (first | (apply eL1; · exact zT0) | rfl)) zT5 zT7 ?_
    rw [rp_full]; rfl

end Go.Proofs.Ytjlidhijnohkbaa
