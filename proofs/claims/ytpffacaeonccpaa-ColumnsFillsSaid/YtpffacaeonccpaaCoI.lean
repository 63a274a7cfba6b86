/-
  OWN WORK. The program's Fill as a whole, and comparison, in the value language.
-/
import Derived.Test.YtpffacaeonccpaaCoH
set_option linter.unusedSimpArgs false
set_option linter.unusedVariables false
namespace Go.Proofs.Ytpffacaeonccpaa
open Go.RowKit Go.HL

theorem rises_len {m : Nat} : ∀ {E : List Nat} {p : Nat}, Rises m p E → p ≤ m → E.length + p ≤ m
  | [], p, _, h => by simpa using h
  | e :: r, p, hh, h => by
    cases hh with
    | cons a b c =>
      have := rises_len c b
      simp only [List.length_cons]
      omega

set_option maxHeartbeats 16000000 in
theorem ht_fill (ls : List Nat) (hl : ls.length ≤ 512) (hb : ∀ n ∈ ls, 0 < n ∧ n ≤ 512) (rows cols : Nat) (hr : 3 ≤ rows) (hr2 : rows ≤ 256) (hc : 0 < cols) (hc2 : cols ≤ 8) :
    HT Try.prog 5 [I (nl ls), .int .i64 rows, .int .i64 cols] (fun r => r = fillV rowsTO ls cols (colsE (brk ls) rows cols)) := by
  have hT := sum_take_bd ls hb ls.length (Nat.le_refl _)
  rw [List.take_length] at hT
  have hbl := brk_len ls
  have hv := ht_colValid (nl ls) rows cols (by rw [nl_len]; omega)
  have hcv : CVal (nl ls) rows cols := ⟨by omega, by omega, by omega, by omega, by rw [nl_len]; omega, fun x hx => by
    obtain ⟨n, hn, rfl⟩ := List.mem_map.1 hx
    have := hb n hn
    omega⟩
  rw [decide_eq_true hcv] at hv
  have hbr := ht_breaks ls hl hb
  have hcut := fun (f h k : Nat) h1 h2 h3 => ht_colcut (brk ls) f h k (by omega) (by omega) h1 h2 h3
  have hrest := fun E h1 h2 => fill_rest ls hl hb cols hc hc2 E h1 h2
  simp only [I, nl_len, Pl] at hv hbr hcut
  refine HT.of rfl fc5 (Nat.le_of_ble_eq_true rfl) ?_
  unfold c5
  simp only [I, nl_len, argSlots, Nat.reduceAdd]
  have hmul : (64 : Int) * (cols : Int) = ((64 * cols : Nat) : Int) := by omega
  have hpw : win (plc (brk ls)) 0 ((brk ls).length * 2) = plc (brk ls) := win_all _ (by rw [plc_len])
  have hce0 : colsE (brk ls) rows cols = (cuts (brk ls) rows (64 * cols) 0).map (balE (brk ls) rows cols) := rfl
  obtain ⟨A, hA⟩ : ∃ A, brk ls = A := ⟨_, rfl⟩
  rw [hA] at hbl hbr hpw hce0
  simp only [hA] at hcut
  rw [hA]
  repeat (first | refine F_mv zT0 rfl ?_ | refine F_nil zT1 ?_ | refine hx_seq ?_ | refine hx_region ?_ | refine F_mvnil rfl (by rfl) zT1 ?_)
  refine F_call (by (try simp only [List.map_cons, List.map_nil]); repeat (first | (apply eL1; · exact zT0) | rfl)) (by simp (disch := omega) only [thawL, HV.thaw, allIds, aget, nget, if_true, if_false, reduceIte, Nat.reduceEqDiff, stripL, HV.strip, win_intsE, win_boolsE, Nat.mul_one, List.cons_append, List.nil_append, List.append_nil, I, Bl, T3, List.getD_cons_zero, List.getD_cons_succ, HL.ints_strip, HL.bools_strip, trip_strip]; try rfl) (hv) ?_
  rintro _ rfl
  refine ⟨(by simp only [refFreeL, HV.refFree, noRdL, HV.noRd, HL.ints_noRd, HL.bools_noRd, trip_noRd, Bool.or_true, Bool.true_or, Bool.or_false, Bool.false_or, Bool.and_true, Bool.true_and, Bool.and_self, List.isEmpty_nil, beq_self_eq_true, List.cons_append, List.nil_append]), _, _, _, _, _, zT4, (by decide), (by simp only [upF, upS]; try rfl), ?_⟩
  repeat (first | refine F_mv zT0 rfl ?_ | refine F_nil zT1 ?_ | refine hx_false (by rfl) ?_ | refine hx_seq ?_ | refine hx_region ?_ | refine hx_skip ?_ | refine F_notT (by rfl) ?_)
  refine F_call (by (try simp only [List.map_cons, List.map_nil]); repeat (first | (apply eL1; · exact zT0) | rfl)) (by simp (disch := omega) only [thawL, HV.thaw, allIds, aget, nget, if_true, if_false, reduceIte, Nat.reduceEqDiff, stripL, HV.strip, win_intsE, win_boolsE, Nat.mul_one, List.cons_append, List.nil_append, List.append_nil, I, Bl, T3, List.getD_cons_zero, List.getD_cons_succ, HL.ints_strip, HL.bools_strip, trip_strip]; try rfl) (hbr) ?_
  rintro _ rfl
  have hnr := plc_noRd A
  refine ⟨(by simp only [refFreeL, HV.refFree, noRdL, HV.noRd, HL.ints_noRd, HL.bools_noRd, trip_noRd, Bool.or_true, Bool.true_or, Bool.or_false, Bool.false_or, Bool.and_true, Bool.true_and, Bool.and_self, List.isEmpty_nil, beq_self_eq_true, List.cons_append, List.nil_append]), _, _, _, _, _, zT4, (by decide), (by simp only [upF, upS]; try rfl), ?_⟩
  repeat (first | refine F_mv zT0 rfl ?_ | refine F_nil zT1 ?_ | refine hx_seq ?_ | refine hx_region ?_ | refine F_mul (by rfl) (by rfl) (by (try simp (disch := omega) only [go_sem, Int.reduceAdd, Int.reduceSub, Int.reduceMul, hmul]); try rfl) ?_)
  refine F_call (by (try simp only [List.map_cons, List.map_nil]); repeat (first | (apply eL1; · exact zT0) | rfl)) (by simp (disch := omega) only [thawL, hpw, plc_strip, HV.thaw, allIds, aget, nget, if_true, if_false, reduceIte, Nat.reduceEqDiff, stripL, HV.strip, win_intsE, win_boolsE, Nat.mul_one, List.cons_append, List.nil_append, List.append_nil, I, Bl, T3, List.getD_cons_zero, List.getD_cons_succ, HL.ints_strip, HL.bools_strip, trip_strip]; try rfl) (hcut 0 rows (64 * cols) (by omega) (by omega) (by omega)) ?_
  rintro _ rfl
  cases hcc : cuts A rows (64 * cols) 0 with
  | none =>
    rw [hcc] at hce0
    rw [hce0]
    simp only [cutV]
    refine ⟨(by simp only [refFreeL, HV.refFree, noRdL, HV.noRd, HL.ints_noRd, HL.bools_noRd, trip_noRd, Bool.or_true, Bool.true_or, Bool.or_false, Bool.false_or, Bool.and_true, Bool.true_and, Bool.and_self, List.isEmpty_nil, beq_self_eq_true, List.cons_append, List.nil_append]), _, _, _, _, _, zT4, (by decide), (by simp only [upF, upS]; try rfl), ?_⟩
    repeat (first | refine F_mv zT0 rfl ?_ | refine F_nil zT1 ?_ | refine F_ext (by rfl) (by (try simp only [go_sem]); first | omega | decide) zT0 ?_ | refine hx_true (by rfl) ?_ | refine hx_seq ?_ | refine hx_region ?_ | refine F_mvnil rfl (by rfl) zT1 ?_ | refine F_notF (by rfl) ?_)
    refine hx_retF (by (try simp only [List.map_cons, List.map_nil]); repeat (first | (apply eL1; · exact zT0) | rfl)) zT5 zT7 ?_
    rfl
  | some E =>
    rw [hcc] at hce0
    rw [hce0]
    have hri := cuts_rises hcc
    have hEl := rises_len hri (by omega)
    have hnE := nl_len E
    simp only [cutV, Option.map_some]
    refine ⟨(by simp only [refFreeL, HV.refFree, noRdL, HV.noRd, HL.ints_noRd, HL.bools_noRd, trip_noRd, Bool.or_true, Bool.true_or, Bool.or_false, Bool.false_or, Bool.and_true, Bool.true_and, Bool.and_self, List.isEmpty_nil, beq_self_eq_true, List.cons_append, List.nil_append]), _, _, _, _, _, zT4, (by decide), (by simp only [upF, upS]; try rfl), ?_⟩
    have hfin : Rises ls.sum 0 (balE A rows cols E) := by
      have := balE_rises (rows := rows) (cols := cols) hri
      rwa [hbl, Nat.add_sub_cancel] at this
    have hfl2 := rises_len hfin (by omega)
    have hrest' := hrest _ hfin (by omega)
    by_cases h0 : E.length = 0
    · obtain rfl := List.eq_nil_of_length_eq_zero h0
      have hbe : balE A rows cols [] = [] := by
        have hm : A.length - 1 ≤ 0 := by cases hri; assumption
        have : balF A cols (startOf [] (lastF [] cols)) 1 rows = some [] := by
          obtain ⟨k, rfl⟩ : ∃ k, rows = k + 1 := ⟨rows - 1, by omega⟩
          have e : startOf [] (lastF [] cols) = 0 := by simp [startOf, lastF]
          rw [e, balF, cuts_ge (by omega)]
        unfold balE
        rw [this]; simp
      rw [hbe] at hrest' ⊢
      repeat (first | refine F_mv zT0 rfl ?_ | refine F_nil zT1 ?_ | refine F_ext (by rfl) (by (try simp only [go_sem]); first | omega | decide) zT0 ?_)
      refine hx_seq ?_
      refine hx_seq ?_
      refine hx_region ?_
      repeat (first | refine F_mv zT0 rfl ?_ | refine F_nil zT1 ?_ | refine F_notT (by rfl) ?_)
      refine hx_false (by rfl) ?_
      repeat (first | refine hx_skip ?_)
      refine hx_seq ?_
      refine hx_seq ?_
      refine hx_region ?_
      repeat (first | refine F_mv zT0 rfl ?_ | refine F_nil zT1 ?_ | refine F_lenR (by rfl) ?_ | refine F_gtr (by rfl) (by rfl) zT6 ?_)
      refine hx_false (by rfl) ?_
      repeat (first | refine hx_skip ?_)
      refine hx_dropN [0, 2, 9] (⟨[(0, .sl ls.length (HL.ints (nl ls))), (2, .int .i64 cols), (9, .ref 0 [] 1 0 0)], [(0, .osl 1 0 (HL.ints (nl [])))], 1⟩ : St) rfl ?_
      exact hrest'
    · have hd := Nat.div_mul_le_self (E.length - 1) cols
      have e1 : (E.length : Int) - 1 = ((E.length - 1 : Nat) : Int) := by omega
      have e2 : (((E.length - 1 : Nat) : Int)).tdiv (cols : Int) = (((E.length - 1) / cols : Nat) : Int) := (Int.ofNat_tdiv _ _).symm
      have e3 : (((E.length - 1) / cols : Nat) : Int) * (cols : Int) = ((lastF E cols : Nat) : Int) := by unfold lastF; rw [Int.natCast_mul]
      have hq : (E.length - 1) / cols ≤ E.length - 1 := Nat.div_le_self _ _
      have hst := startOf_le hri cols
      have hbalE : balE A rows cols E = match balF A cols (startOf E (lastF E cols)) 1 rows with | none => E | some l => E.take (lastF E cols) ++ l := rfl
      rw [hbalE] at hrest' ⊢
      have hlf2 : lastF E cols ≤ E.length - 1 := hd
      obtain ⟨q, hqq⟩ : ∃ q, (E.length - 1) / cols = q := ⟨_, rfl⟩
      obtain ⟨F, hF⟩ : ∃ F, startOf E (lastF E cols) = F := ⟨_, rfl⟩
      have hF2 := hF
      obtain ⟨f, hf⟩ : ∃ f, lastF E cols = f := ⟨_, rfl⟩
      rw [hF] at hst hrest' ⊢
      rw [hf] at e3 hlf2 hF2 hrest' ⊢
      rw [hqq] at e2 e3 hq
      have key : hx Try.prog [HI.c c5_9, HI.c c5_27] (finish [6, 7] fun r => r = fillV rowsTO ls cols (some (match balF A cols F 1 rows with | none => E | some l => E.take f ++ l))) ⟨[(0, .sl ls.length (HL.ints (nl ls))), (1, .int .i64 rows), (2, .int .i64 cols), (8, .ref 0 [] 2 0 A.length), (9, .ref 1 [] 1 0 E.length), (11, .int .i64 f), (12, .int .i64 F)], [(0, .osl 2 A.length (plc A)), (1, .osl 1 E.length (HL.ints (nl E)))], 2⟩ := by
        repeat (first | refine F_mv zT0 rfl ?_ | refine F_nil zT1 ?_ | refine hx_seq ?_ | refine hx_region ?_ | refine hx_block ?_)
        refine hx_loopG [0, 1, 2, 8, 9, 11, 12, 13] (fun h : Nat => 1 ≤ h ∧ h ≤ rows + 1 ∧ balF A cols F 1 rows = balF A cols F h (rows + 1 - h))
          (fun h => ⟨[(0, .sl ls.length (HL.ints (nl ls))), (1, .int .i64 rows), (2, .int .i64 cols), (8, .ref 0 [] 2 0 A.length), (9, .ref 1 [] 1 0 E.length), (11, .int .i64 f), (12, .int .i64 F), (13, .int .i64 h)], [(0, .osl 2 A.length (plc A)), (1, .osl 1 E.length (HL.ints (nl E)))], 2⟩)
          (fun h => rows + 1 - h) 1 ⟨Nat.le_refl _, by omega, by simp⟩ rfl ?_
        rintro h ⟨h1, h2, hbal⟩
        by_cases hle : h ≤ rows
        · obtain ⟨k, hk⟩ : ∃ k, rows + 1 - h = k + 1 := ⟨rows - h, by omega⟩
          rw [hk, balF] at hbal
          repeat (first | refine F_mv zT0 rfl ?_ | refine F_nil zT1 ?_ | refine hx_true (by rfl) ?_ | refine hx_seq ?_ | refine hx_region ?_ | refine hx_block ?_ | refine hx_skip ?_ | refine F_leq (by rfl) (by rfl) (by first | exact leT (by omega) | exact leF (by omega) | rfl) ?_)
          refine F_call (by (try simp only [List.map_cons, List.map_nil]); repeat (first | (apply eL1; · exact zT0) | rfl)) (by simp (disch := omega) only [thawL, hpw, plc_strip, HV.thaw, allIds, aget, nget, if_true, if_false, reduceIte, Nat.reduceEqDiff, stripL, HV.strip, win_intsE, win_boolsE, Nat.mul_one, List.cons_append, List.nil_append, List.append_nil, I, Bl, T3, List.getD_cons_zero, List.getD_cons_succ, HL.ints_strip, HL.bools_strip, trip_strip]; try rfl) (hcut F h cols (by omega) (by omega) (by omega)) ?_
          rintro _ rfl
          cases hcf : cuts A h cols F with
          | none =>
            rw [hcf] at hbal
            simp only [cutV]
            refine ⟨(by simp only [refFreeL, HV.refFree, noRdL, HV.noRd, HL.ints_noRd, HL.bools_noRd, trip_noRd, Bool.or_true, Bool.true_or, Bool.or_false, Bool.false_or, Bool.and_true, Bool.true_and, Bool.and_self, List.isEmpty_nil, beq_self_eq_true, List.cons_append, List.nil_append]), _, _, _, _, _, zT4, (by decide), (by simp only [upF, upS]; try rfl), ?_⟩
            repeat (first | refine F_mv zT0 rfl ?_ | refine F_nil zT1 ?_ | refine F_add (by rfl) (by rfl) zT11 ?_ | refine F_ext (by rfl) (by (try simp only [go_sem]); first | omega | decide) zT0 ?_ | refine hx_false (by rfl) ?_ | refine hx_seq ?_ | refine hx_region ?_ | refine hx_b ?_ | refine hx_skip ?_)
            exact hx_lG [0, 1, 2, 8, 9, 11, 12, 13] (h + 1) ⟨by omega, by omega, by rw [hbal, show rows + 1 - (h + 1) = k by omega]⟩ (by omega) rfl
          | some l =>
            rw [hcf] at hbal
            simp only at hbal
            rw [hbal] at hrest' ⊢
            have hll := cuts_len hcf
            have hnl := nl_len l
            have hfl : f ≤ E.length := by omega
            have hw2 : win (HL.ints (nl E)) 0 (f * 1) = HL.ints (nl (E.take f)) := by
              rw [Nat.mul_one]
              unfold win
              rw [List.drop_zero]
              split
              · rename_i e; rw [List.take_of_length_le (l := E) (by rw [HL.ints_len, nl_len] at e; omega)]
              · rw [← nl_take]; simp [HL.ints, List.map_take]
            have hw2' : win (HL.ints (nl E)) 0 f = HL.ints (nl (E.take f)) := by rw [← hw2, Nat.mul_one]
            have hfT : (f ≤ E.length) = True := eq_true hfl
            have happ : HL.ints (nl (E.take f)) ++ HL.ints (nl l) = HL.ints (nl (E.take f ++ l)) := by simp [HL.ints, nl]
            have hlen : (E.take f ++ l).length = f + l.length := by rw [List.length_append, List.length_take]; omega
            rw [hlen] at hrest'
            simp only [cutV]
            refine ⟨(by simp only [refFreeL, HV.refFree, noRdL, HV.noRd, HL.ints_noRd, HL.bools_noRd, trip_noRd, Bool.or_true, Bool.true_or, Bool.or_false, Bool.false_or, Bool.and_true, Bool.true_and, Bool.and_self, List.isEmpty_nil, beq_self_eq_true, List.cons_append, List.nil_append]), _, _, _, _, _, zT4, (by decide), (by simp only [upF, upS]; try rfl), ?_⟩
            repeat (first | refine F_mv zT0 rfl ?_ | refine F_nil zT1 ?_ | refine F_ext (by rfl) (by (try simp only [go_sem]); first | omega | decide) zT0 ?_)
            refine hx_seq ?_
            refine hx_region ?_
            repeat (first | refine F_mv zT0 rfl ?_ | refine F_nil zT1 ?_)
            refine hx_true (by rfl) ?_
            refine hx_seq ?_
            refine hx_region ?_
            repeat (first | refine F_mv zT0 rfl ?_ | refine F_nil zT1 ?_ | refine F_slcR (by rfl) (by rfl) (by rfl) (by omega) (by (try simp only [go_sem]); try rfl) zT1 ?_ | refine F_appR zT1 (by rfl) zT0 zT9 (by (try simp (disch := omega) only [go_sem, reduceIte, Nat.reduceEqDiff, Nat.reduceAdd, Nat.reduceMul, hw2, hw2', hnE, hfT, hnl, happ]); try omega) (by first | exact eO rfl | exact eW rfl) (by (try simp (disch := omega) only [go_sem, reduceIte, Nat.reduceEqDiff, Nat.reduceAdd, Nat.reduceMul, hw2, hw2', hnE, hfT, hnl, happ]); try rfl) zT1 (by omega) (by unfold maxLen; omega) (by (try simp only [go_sem]); first | omega | decide) (by (try simp (disch := omega) only [go_sem, reduceIte, Nat.reduceEqDiff, Nat.reduceAdd, Nat.reduceMul, hw2, hw2', hnE, hfT, hnl, happ]); try rfl) (by (try simp only [go_sem]); try rfl) ?_)
            refine hx_exitS (by rfl) ?_
            refine hx_dropN [0, 2, 9] (⟨[(0, .sl ls.length (HL.ints (nl ls))), (2, .int .i64 cols), (9, .ref 0 [] 1 0 (f + l.length))], [(0, .osl 1 (f + l.length) (HL.ints (nl (E.take f ++ l))))], 1⟩ : St) rfl ?_
            exact hrest'
        · obtain rfl : h = rows + 1 := by omega
          rw [Nat.sub_self, balF] at hbal
          rw [hbal] at hrest' ⊢
          refine hx_seq ?_
          refine hx_seq ?_
          refine hx_region ?_
          repeat (first | refine F_mv zT0 rfl ?_ | refine F_nil zT1 ?_ | refine F_leq (by rfl) (by rfl) (by first | exact leT (by omega) | exact leF (by omega) | rfl) ?_)
          refine hx_false (by rfl) ?_
          refine hx_exitS (by rfl) ?_
          refine hx_dropN [0, 2, 9] (⟨[(0, .sl ls.length (HL.ints (nl ls))), (2, .int .i64 cols), (9, .ref 0 [] 1 0 E.length)], [(0, .osl 1 E.length (HL.ints (nl E)))], 1⟩ : St) rfl ?_
          exact hrest'
      repeat (first | refine F_mv zT0 rfl ?_ | refine F_nil zT1 ?_ | refine F_ext (by rfl) (by (try simp only [go_sem]); first | omega | decide) zT0 ?_)
      refine hx_seq ?_
      refine hx_seq ?_
      refine hx_region ?_
      repeat (first | refine F_mv zT0 rfl ?_ | refine F_nil zT1 ?_ | refine F_notT (by rfl) ?_)
      refine hx_false (by rfl) ?_
      repeat (first | refine hx_skip ?_)
      refine hx_seq ?_
      refine hx_seq ?_
      refine hx_region ?_
      repeat (first | refine F_mv zT0 rfl ?_ | refine F_nil zT1 ?_ | refine F_lenR (by rfl) ?_ | refine F_gtr (by rfl) (by rfl) zT6 ?_)
      refine hx_true (by rfl) ?_
      refine hx_seq ?_
      refine hx_region ?_
      repeat (first | refine F_mv zT0 rfl ?_ | refine F_nil zT1 ?_ | refine F_lenR (by rfl) ?_ | refine F_sub (by rfl) (by rfl) (by (try simp (disch := omega) only [go_sem, Int.reduceAdd, Int.reduceSub, Int.reduceMul, e1, e2, e3]); try rfl) ?_ | refine F_mul (by rfl) (by rfl) (by (try simp (disch := omega) only [go_sem, Int.reduceAdd, Int.reduceSub, Int.reduceMul, e1, e2, e3]); try rfl) ?_ | refine F_quo (by rfl) (by rfl) (by omega) (by (try simp (disch := omega) only [go_sem, Int.reduceAdd, Int.reduceSub, Int.reduceMul, e1, e2, e3]); try rfl) ?_)
      refine hx_seq ?_
      refine hx_region ?_
      repeat (first | refine F_mv zT0 rfl ?_ | refine F_nil zT1 ?_)
      refine hx_seq ?_
      refine hx_seq ?_
      refine hx_region ?_
      by_cases hf0 : 0 < f
      · have hg := nl_getD E (f - 1)
        have e4 : (f : Int) - 1 = ((f - 1 : Nat) : Int) := by omega
        have hgF : E.getD (f - 1) 0 = F := by rw [← hF2, startOf, if_neg (by omega)]
        rw [hgF] at hg
        repeat (first | refine F_mv zT0 rfl ?_ | refine F_nil zT1 ?_ | refine F_gtr (by rfl) (by rfl) zT6 ?_)
        refine hx_true (by rfl) ?_
        refine hx_region ?_
        repeat (first | refine F_mv zT0 rfl ?_ | refine F_iaR (by rfl) (by rfl) (by omega) zT1 ?_ | refine F_ldR (by rfl) (by first | exact eO rfl | exact eW rfl) (by (try simp (disch := omega) only [go_sem, reduceIte, Nat.reduceEqDiff, Nat.reduceAdd, Nat.reduceMul, e4, hg]); try rfl) (by (try simp only [go_sem]); first | omega | decide) (by (try simp (disch := omega) only [go_sem, e4, hg]); try rfl) zT0 ?_ | refine F_nil zT1 ?_ | refine F_sub (by rfl) (by rfl) (by (try simp (disch := omega) only [go_sem, Int.reduceAdd, Int.reduceSub, Int.reduceMul, e4, hg]); try rfl) ?_)
        refine hx_dropN [0, 1, 2, 8, 9, 11, 12] (⟨[(0, .sl ls.length (HL.ints (nl ls))), (1, .int .i64 rows), (2, .int .i64 cols), (8, .ref 0 [] 2 0 A.length), (9, .ref 1 [] 1 0 E.length), (11, .int .i64 f), (12, .int .i64 F)], [(0, .osl 2 A.length (plc A)), (1, .osl 1 E.length (HL.ints (nl E)))], 2⟩ : St) rfl ?_
        exact key
      · have hF0 : F = 0 := by rw [← hF2, startOf, if_pos (by omega)]
        rw [hF0] at key ⊢
        repeat (first | refine F_mv zT0 rfl ?_ | refine F_nil zT1 ?_ | refine F_gtr (by rfl) (by rfl) zT6 ?_)
        refine hx_false (by rfl) ?_
        repeat (first | refine hx_skip ?_)
        refine hx_dropN [0, 1, 2, 8, 9, 11, 12] (⟨[(0, .sl ls.length (HL.ints (nl ls))), (1, .int .i64 rows), (2, .int .i64 cols), (8, .ref 0 [] 2 0 A.length), (9, .ref 1 [] 1 0 E.length), (11, .int .i64 f), (12, .int .i64 0)], [(0, .osl 2 A.length (plc A)), (1, .osl 1 E.length (HL.ints (nl E)))], 2⟩ : St) rfl ?_
        exact key

theorem ht_fill_bad (l : List Int) (rows cols : Int) (hl : l.length ≤ 9223372036854775807) (hv : ¬ CVal l rows cols) : HT Try.prog 5 [I l, .int .i64 rows, .int .i64 cols] (fun r => r = .tup [.osl 1 0 [], .int .i64 1]) := by
  have h := ht_colValid l rows cols hl
  rw [decide_eq_false hv] at h
  refine HT.of rfl fc5 (Nat.le_of_ble_eq_true rfl) ?_
  unfold c5
  simp only [I, argSlots, Nat.reduceAdd] at h ⊢
  repeat (first | refine F_mv zT0 rfl ?_ | refine F_nil zT1 ?_ | refine hx_seq ?_ | refine hx_region ?_ | refine F_mvnil rfl (by rfl) zT1 ?_)
  refine F_call (by (try simp only [List.map_cons, List.map_nil]); repeat (first | (apply eL1; · exact zT0) | rfl)) (by simp (disch := omega) only [thawL, HV.thaw, allIds, aget, nget, if_true, if_false, reduceIte, Nat.reduceEqDiff, stripL, HV.strip, win_intsE, win_boolsE, Nat.mul_one, List.cons_append, List.nil_append, List.append_nil, I, Bl, T3, List.getD_cons_zero, List.getD_cons_succ, HL.ints_strip, HL.bools_strip, trip_strip]; try rfl) (h) ?_
  rintro _ rfl
  refine ⟨(by simp only [refFreeL, HV.refFree, noRdL, HV.noRd, HL.ints_noRd, HL.bools_noRd, trip_noRd, Bool.or_true, Bool.true_or, Bool.or_false, Bool.false_or, Bool.and_true, Bool.true_and, Bool.and_self, List.isEmpty_nil, beq_self_eq_true, List.cons_append, List.nil_append]), _, _, _, _, _, zT4, (by decide), (by simp only [upF, upS]; try rfl), ?_⟩
  repeat (first | refine F_mv zT0 rfl ?_ | refine F_nil zT1 ?_ | refine hx_true (by rfl) ?_ | refine hx_seq ?_ | refine hx_region ?_ | refine F_mvnil rfl (by rfl) zT1 ?_ | refine F_notF (by rfl) ?_)
  refine hx_retF (by (try simp only [List.map_cons, List.map_nil]); repeat (first | (apply eL1; · exact zT0) | rfl)) zT5 zT7 ?_
  rfl
theorem ht_rfill_bad (l : List Int) (rows cols : Int) (hl : l.length ≤ 9223372036854775807) (hv : ¬ CVal l rows cols) : HT Try.prog 6 [I l, .int .i64 rows, .int .i64 cols] (fun r => r = .tup [.osl 1 0 [], .int .i64 1]) := by
  have h := ht_rcolValid l rows cols hl
  rw [decide_eq_false hv] at h
  refine HT.of rfl fc6 (Nat.le_of_ble_eq_true rfl) ?_
  unfold c6
  simp only [I, argSlots, Nat.reduceAdd] at h ⊢
  repeat (first | refine F_mv zT0 rfl ?_ | refine F_nil zT1 ?_ | refine hx_seq ?_ | refine hx_region ?_ | refine F_mvnil rfl (by rfl) zT1 ?_)
  refine F_call (by (try simp only [List.map_cons, List.map_nil]); repeat (first | (apply eL1; · exact zT0) | rfl)) (by simp (disch := omega) only [thawL, HV.thaw, allIds, aget, nget, if_true, if_false, reduceIte, Nat.reduceEqDiff, stripL, HV.strip, win_intsE, win_boolsE, Nat.mul_one, List.cons_append, List.nil_append, List.append_nil, I, Bl, T3, List.getD_cons_zero, List.getD_cons_succ, HL.ints_strip, HL.bools_strip, trip_strip]; try rfl) (h) ?_
  rintro _ rfl
  refine ⟨(by simp only [refFreeL, HV.refFree, noRdL, HV.noRd, HL.ints_noRd, HL.bools_noRd, trip_noRd, Bool.or_true, Bool.true_or, Bool.or_false, Bool.false_or, Bool.and_true, Bool.true_and, Bool.and_self, List.isEmpty_nil, beq_self_eq_true, List.cons_append, List.nil_append]), _, _, _, _, _, zT4, (by decide), (by simp only [upF, upS]; try rfl), ?_⟩
  repeat (first | refine F_mv zT0 rfl ?_ | refine F_nil zT1 ?_ | refine hx_true (by rfl) ?_ | refine hx_seq ?_ | refine hx_region ?_ | refine F_mvnil rfl (by rfl) zT1 ?_ | refine F_notF (by rfl) ?_)
  refine hx_retF (by (try simp only [List.map_cons, List.map_nil]); repeat (first | (apply eL1; · exact zT0) | rfl)) zT5 zT7 ?_
  rfl

set_option maxHeartbeats 8000000 in
theorem ht_sameT (R : List (List Tr)) (hR : R.length ≤ 100000) (hr : ∀ i, (R.getD i []).length ≤ 100000) : HT Try.prog 9 [.sl R.length (rowsT R), .sl R.length (rowsT R)] (fun r => r = .bool true) := by
  refine HT.of rfl fc9 (Nat.le_of_ble_eq_true rfl) ?_
  unfold c9
  simp only [argSlots, Nat.reduceAdd]
  have hRl := rowsT_len R
  repeat (first | refine F_mv zT0 rfl ?_ | refine F_nil zT1 ?_ | refine F_neq (by rfl) (by rfl) (by first | exact neF (by omega) | exact neT (by omega) | rfl) ?_ | refine F_lenS (by rfl) ?_ | refine hx_false (by rfl) ?_ | refine hx_seq ?_ | refine hx_region ?_ | refine hx_block ?_ | refine hx_skip ?_)
  refine hx_loopG [0, 1, 5] (fun i : Nat => i ≤ R.length) (fun i => ⟨[(0, .sl R.length (rowsT R)), (1, .sl R.length (rowsT R)), (5, .int .i64 i)], [], 0⟩) (fun i => R.length - i) 0 (by omega) rfl ?_
  intro i hi
  by_cases hil : i < R.length
  · have hg := rowsT_get R hil
    have hrb := hr i
    obtain ⟨x, hx0⟩ : ∃ x, R.getD i [] = x := ⟨_, rfl⟩
    rw [hx0] at hg hrb
    have hxl := HL.trip_len (e := x)
    repeat (first | refine F_mv zT0 rfl ?_ | refine F_nil zT1 ?_ | refine F_lss (by rfl) (by rfl) zT6 ?_ | refine F_lenS (by rfl) ?_ | refine hx_true (by rfl) ?_ | refine hx_seq ?_ | refine hx_region ?_ | refine hx_block ?_ | refine hx_skip ?_)
    refine hx_draw (by kernel_rfl) (by kernel_rfl) (fun _ _ _ => False) ?_
    repeat (first | refine F_mv zT0 rfl ?_ | refine F_iaS (by rfl) (by rfl) (by omega) zT1 ?_ | refine F_ldP (by rfl) (by (try simp only [go_sem]); first | omega | decide) (by (try simp (disch := omega) only [go_sem, hg]); try rfl) ?_ | refine F_nil zT1 ?_ | refine F_neq (by rfl) (by rfl) (by first | exact neF (by omega) | exact neT (by omega) | rfl) ?_ | refine F_lenS (by rfl) ?_ | refine hx_false (by rfl) ?_ | refine hx_seq ?_ | refine hx_region ?_ | refine hx_block ?_ | refine hx_skip ?_)
    refine hx_loopG [0, 1, 5, 6] (fun k : Nat => k ≤ x.length) (fun k => ⟨[(0, .sl R.length (rowsT R)), (1, .sl R.length (rowsT R)), (5, .int .i64 i), (6, .int .i64 k)], [], 0⟩) (fun k => x.length - k) 0 (by omega) rfl ?_
    intro k hk
    by_cases hkl : k < x.length
    · have hw := HL.trip_win x hkl
      repeat (first | refine F_mv zT0 rfl ?_ | refine F_iaS (by rfl) (by rfl) (by omega) zT1 ?_ | refine F_ldP (by rfl) (by (try simp only [go_sem]); first | omega | decide) (by (try simp (disch := omega) only [go_sem, hg]); try rfl) ?_ | refine F_nil zT1 ?_ | refine F_lss (by rfl) (by rfl) zT6 ?_ | refine F_lenS (by rfl) ?_ | refine hx_true (by rfl) ?_ | refine hx_seq ?_ | refine hx_region ?_ | refine hx_block ?_ | refine hx_skip ?_)
      refine hx_draw (by kernel_rfl) (by kernel_rfl) (fun _ _ _ => False) ?_
      repeat (first | refine F_mv zT0 rfl ?_ | refine F_iaS (by rfl) (by rfl) (by omega) zT1 ?_ | refine F_ldP (by rfl) (by (try simp only [go_sem]); first | omega | decide) (by (try simp (disch := omega) only [go_sem, hg, hw]); try rfl) ?_ | refine F_nil zT1 ?_ | refine F_add (by rfl) (by rfl) (by (try simp (disch := omega) only [go_sem, Int.reduceAdd, Int.reduceSub, Int.reduceMul, hg, hw]); try rfl) ?_ | refine hx_false (by rfl) ?_ | refine hx_region ?_ | refine hx_b ?_ | refine hx_skip ?_ | refine F_aeq (by rfl) (by rfl) (by first | exact ⟨rfl, rfl, rfl, rfl⟩ | decide) (by (try simp (disch := omega) only [aggB, go_sem, reduceIte, hg, hw]); try rfl) ?_ | refine F_ldPa (by rfl) (by (try simp only [go_sem]); first | omega | decide) (by (try simp (disch := omega) only [go_sem, reduceIte, Nat.reduceEqDiff, Nat.reduceAdd, Nat.reduceMul, hg, hw]); try rfl) ?_)
      exact hx_lG [0, 1, 5, 6] (k + 1) hkl (by omega) rfl
    · obtain rfl : k = x.length := by omega
      repeat (first | refine F_mv zT0 rfl ?_ | refine F_iaS (by rfl) (by rfl) (by omega) zT1 ?_ | refine F_ldP (by rfl) (by (try simp only [go_sem]); first | omega | decide) (by (try simp (disch := omega) only [go_sem, hg]); try rfl) ?_ | refine F_nil zT1 ?_ | refine F_lss (by rfl) (by rfl) zT6 ?_ | refine F_add (by rfl) (by rfl) (by (try simp (disch := omega) only [go_sem, Int.reduceAdd, Int.reduceSub, Int.reduceMul, hg]); try rfl) ?_ | refine F_lenS (by rfl) ?_ | refine hx_exitS (by rfl) ?_ | refine hx_false (by rfl) ?_ | refine hx_seq ?_ | refine hx_region ?_ | refine hx_b ?_)
      exact hx_lG [0, 1, 5] (i + 1) hil (by omega) rfl
  · obtain rfl : i = R.length := by omega
    repeat (first | refine F_mv zT0 rfl ?_ | refine F_nil zT1 ?_ | refine F_lss (by rfl) (by rfl) zT6 ?_ | refine F_lenS (by rfl) ?_ | refine hx_exitS (by rfl) ?_ | refine hx_false (by rfl) ?_ | refine hx_seq ?_ | refine hx_region ?_)
    refine hx_retF (by (try simp only [List.map_cons, List.map_nil]); repeat (first | (apply eL1; · exact zT0) | rfl)) zT5 zT7 ?_
    rfl
end Go.Proofs.Ytpffacaeonccpaa
