/-
  OWN WORK. Fill of package columns and of the reference, in the value language.
-/
import Derived.Test.YtpffacaeonccpaaCoR
set_option linter.unusedSimpArgs false
set_option linter.unusedVariables false
namespace Go.Proofs.Ytpffacaeonccpaa
open Go.RowKit Go.HL

/-- The last page, at the least height. -/
def balF (A : List (Bool × Bool)) (cols from_ : Nat) : Nat → Nat → Option (List Nat)
  | _, 0 => none
  | h, k + 1 => match cuts A h cols from_ with
    | some l => some l
    | none => balF A cols from_ (h + 1) k
def lastF (E : List Nat) (cols : Nat) : Nat := (E.length - 1) / cols * cols
def balE (A : List (Bool × Bool)) (rows cols : Nat) (E : List Nat) : List Nat := match balF A cols (startOf E (lastF E cols)) 1 rows with
  | none => E
  | some l => E.take (lastF E cols) ++ l
def colsE (A : List (Bool × Bool)) (rows cols : Nat) : Option (List Nat) := (cuts A rows (64 * cols) 0).map (balE A rows cols)
theorem balF_some {A : List (Bool × Bool)} {cols from_ : Nat} {l : List Nat} : ∀ {k h : Nat}, balF A cols from_ h k = some l → ∃ h', cuts A h' cols from_ = some l
  | 0, _, e => by cases e
  | k + 1, h, e => by
    unfold balF at e
    split at e
    · cases e; exact ⟨h, by assumption⟩
    · exact balF_some e
theorem lastF_lt (E : List Nat) (cols : Nat) : lastF E cols = 0 ∨ lastF E cols - 1 < E.length := by
  unfold lastF
  have := Nat.div_mul_le_self (E.length - 1) cols
  omega
theorem startOf_le {m : Nat} {E : List Nat} (h : Rises m 0 E) (cols : Nat) : startOf E (lastF E cols) ≤ m := by
  unfold startOf
  split
  · omega
  · rcases lastF_lt E cols with h1 | h1
    · omega
    · exact (h.bd _ h1).2
theorem balE_rises {A : List (Bool × Bool)} {rows cols : Nat} {E : List Nat} (h : Rises (A.length - 1) 0 E) : Rises (A.length - 1) 0 (balE A rows cols E) := by
  unfold balE
  split
  · exact h
  · rename_i l hl
    obtain ⟨h', hc⟩ := balF_some hl
    refine rises_take h ?_ ?_
    · rcases lastF_lt E cols with h1 | h1 <;> omega
    · have := cuts_rises hc
      unfold startOf at this
      exact this

theorem ht_last (E : List Nat) (cols : Nat) (hc : 0 < cols) (hc2 : cols ≤ 8) (hE : E.length ≤ 10000) (hb : ∀ i, E.getD i 0 ≤ 1000000) : HT Try.prog 24 [I (nl E), .int .i64 cols] (fun r => r = .tup [.int .i64 (startOf E (lastF E cols) : Nat), .int .i64 (lastF E cols : Nat)]) := by
  refine HT.of rfl fc24 (Nat.le_of_ble_eq_true rfl) ?_
  unfold c24
  simp only [I, nl_len, argSlots, Nat.reduceAdd]
  have hnl := nl_len E
  by_cases h0 : E.length = 0
  · have : lastF E cols = 0 := by unfold lastF; rw [h0]; simp
    rw [this]
    repeat (first | refine F_mv zT0 rfl ?_ | refine F_nil zT1 ?_ | refine F_eql (by rfl) (by rfl) (by first | exact eqT (by omega) | exact eqF (by omega) | rfl) ?_ | refine F_lenS (by rfl) ?_ | refine hx_true (by rfl) ?_ | refine hx_seq ?_ | refine hx_region ?_)
    refine hx_retF (by (try simp only [List.map_cons, List.map_nil]); repeat (first | (apply eL1; · exact zT0) | rfl)) zT5 zT7 ?_
    simp [startOf, tupOf]
  · have hd := Nat.div_mul_le_self (E.length - 1) cols
    have e1 : (E.length : Int) - 1 = ((E.length - 1 : Nat) : Int) := by omega
    have e2 : (((E.length - 1 : Nat) : Int)).tdiv (cols : Int) = (((E.length - 1) / cols : Nat) : Int) := (Int.ofNat_tdiv _ _).symm
    have e3 : (((E.length - 1) / cols : Nat) : Int) * (cols : Int) = ((lastF E cols : Nat) : Int) := by unfold lastF; rw [Int.natCast_mul]
    have hq : (E.length - 1) / cols ≤ E.length - 1 := Nat.div_le_self _ _
    obtain ⟨q, hqq⟩ : ∃ q, (E.length - 1) / cols = q := ⟨_, rfl⟩
    have hlf := lastF_lt E cols
    have hlf2 : lastF E cols ≤ E.length - 1 := hd
    obtain ⟨f, hf⟩ : ∃ f, lastF E cols = f := ⟨_, rfl⟩
    rw [hf] at e3 hlf hlf2 ⊢
    rw [hqq] at e2 e3 hq
    by_cases hf0 : f = 0
    · subst hf0
      repeat (first | refine F_mv zT0 rfl ?_ | refine F_nil zT1 ?_ | refine F_eql (by rfl) (by rfl) (by first | exact eqT (by omega) | exact eqF (by omega) | rfl) ?_ | refine F_lenS (by rfl) ?_ | refine hx_true (by rfl) ?_ | refine hx_false (by rfl) ?_ | refine hx_seq ?_ | refine hx_region ?_ | refine hx_skip ?_ | refine F_sub (by rfl) (by rfl) (by (try simp (disch := omega) only [go_sem, Int.reduceAdd, Int.reduceSub, Int.reduceMul, e1, e2, e3]); try rfl) ?_ | refine F_mul (by rfl) (by rfl) (by (try simp (disch := omega) only [go_sem, Int.reduceAdd, Int.reduceSub, Int.reduceMul, e1, e2, e3]); try rfl) ?_ | refine F_quo (by rfl) (by rfl) (by omega) (by (try simp (disch := omega) only [go_sem, Int.reduceAdd, Int.reduceSub, Int.reduceMul, e1, e2, e3]); try rfl) ?_)
      refine hx_retF (by (try simp only [List.map_cons, List.map_nil]); repeat (first | (apply eL1; · exact zT0) | rfl)) zT5 zT7 ?_
      simp [startOf, tupOf]
    · have hg := nl_getD E (f - 1)
      have e4 : (f : Int) - 1 = ((f - 1 : Nat) : Int) := by omega
      repeat (first | refine F_mv zT0 rfl ?_ | refine F_iaS (by rfl) (by rfl) (by omega) zT1 ?_ | refine F_ldP (by rfl) (by (try simp only [go_sem]); first | omega | decide) (by (try simp (disch := omega) only [go_sem, e1, e2, e3, e4, hg]); try rfl) ?_ | refine F_nil zT1 ?_ | refine F_eql (by rfl) (by rfl) (by first | exact eqT (by omega) | exact eqF (by omega) | rfl) ?_ | refine F_lenS (by rfl) ?_ | refine hx_false (by rfl) ?_ | refine hx_seq ?_ | refine hx_region ?_ | refine hx_skip ?_ | refine F_sub (by rfl) (by rfl) (by (try simp (disch := omega) only [go_sem, Int.reduceAdd, Int.reduceSub, Int.reduceMul, e1, e2, e3, e4, hg]); try rfl) ?_ | refine F_mul (by rfl) (by rfl) (by (try simp (disch := omega) only [go_sem, Int.reduceAdd, Int.reduceSub, Int.reduceMul, e1, e2, e3, e4, hg]); try rfl) ?_ | refine F_quo (by rfl) (by rfl) (by omega) (by (try simp (disch := omega) only [go_sem, Int.reduceAdd, Int.reduceSub, Int.reduceMul, e1, e2, e3, e4, hg]); try rfl) ?_)
      refine hx_retF (by (try simp only [List.map_cons, List.map_nil]); repeat (first | (apply eL1; · exact zT0) | rfl)) zT5 zT7 ?_
      rw [startOf, if_neg hf0]; rfl

/-- What Cuts returns. -/
def colsV : Option (List Nat) → HV
  | none => .tup [.osl 1 0 [], .int .i64 4]
  | some l => .tup [.osl 1 l.length (HL.ints (nl l)), .int .i64 0]

set_option maxHeartbeats 8000000 in
theorem ht_cuts (ls : List Nat) (hl : ls.length ≤ 512) (hb : ∀ n ∈ ls, 0 < n ∧ n ≤ 512) (rows cols : Nat) (hr : 3 ≤ rows) (hr2 : rows ≤ 256) (hc : 0 < cols) (hc2 : cols ≤ 8) :
    HT Try.prog 15 [I (nl ls), .int .i64 rows, .int .i64 cols] (fun r => r = colsV (colsE (brk ls) rows cols)) := by
  have hT := sum_take_bd ls hb ls.length (Nat.le_refl _)
  rw [List.take_length] at hT
  have hbl := brk_len ls
  have hends := ht_ends ls hl hb 0 rows (64 * cols) (by omega) (by omega) (by omega)
  simp only [I, nl_len] at hends
  obtain ⟨E, hE⟩ := ends_some ls (fun n hn => (hb n hn).1) rows hr (64 * cols + 1) 0 rfl
  rw [hE] at hends
  have hEl := ends_len hE
  refine HT.of rfl fc15 (Nat.le_of_ble_eq_true rfl) ?_
  unfold c15
  simp only [I, nl_len, argSlots, Nat.reduceAdd]
  have hmul : (64 : Int) * (cols : Int) = ((64 * cols : Nat) : Int) := by omega
  have z : (0 : Int) = ((0 : Nat) : Int) := rfl
  repeat (first | refine F_mv zT0 rfl ?_ | refine F_nil zT1 ?_ | refine hx_seq ?_ | refine hx_region ?_ | refine F_mvnil rfl (by rfl) zT1 ?_ | refine F_mul (by rfl) (by rfl) (by (try simp (disch := omega) only [go_sem, Int.reduceAdd, Int.reduceSub, Int.reduceMul, hmul]); try rfl) ?_)
  refine F_call (by (try simp only [List.map_cons, List.map_nil]); repeat (first | (apply eL1; · exact zT0) | rfl)) (by simp (disch := omega) only [thawL, HV.thaw, allIds, aget, nget, if_true, if_false, reduceIte, Nat.reduceEqDiff, stripL, HV.strip, win_intsE, win_boolsE, Nat.mul_one, List.cons_append, List.nil_append, List.append_nil, I, Bl, T3, List.getD_cons_zero, List.getD_cons_succ, HL.ints_strip, HL.bools_strip, trip_strip]; try rfl) (hends) ?_
  rintro _ rfl
  simp only [cutV]
  refine ⟨(by simp only [refFreeL, HV.refFree, noRdL, HV.noRd, HL.ints_noRd, HL.bools_noRd, trip_noRd, Bool.or_true, Bool.true_or, Bool.or_false, Bool.false_or, Bool.and_true, Bool.true_and, Bool.and_self, List.isEmpty_nil, beq_self_eq_true, List.cons_append, List.nil_append]), _, _, _, _, _, zT4, (by decide), (by simp only [upF, upS]; try rfl), ?_⟩
  by_cases hlim : 64 * cols < E.length
  · have hcn : colsE (brk ls) rows cols = none := by
      unfold colsE
      cases hcc : cuts (brk ls) rows (64 * cols) 0 with
      | none => rfl
      | some l =>
        obtain ⟨h1, h2⟩ := cuts_ends.1 hcc
        rw [hE] at h1
        cases h1
        omega
    rw [hcn]
    repeat (first | refine F_mv zT0 rfl ?_ | refine F_nil zT1 ?_ | refine F_ext (by rfl) (by (try simp only [go_sem]); first | omega | decide) zT0 ?_ | refine F_lenR (by rfl) ?_ | refine hx_true (by rfl) ?_ | refine hx_seq ?_ | refine hx_region ?_ | refine F_mvnil rfl (by rfl) zT1 ?_ | refine F_mul (by rfl) (by rfl) (by (try simp (disch := omega) only [go_sem, Int.reduceAdd, Int.reduceSub, Int.reduceMul, hmul]); try rfl) ?_ | refine F_gtr (by rfl) (by rfl) zT6 ?_)
    refine hx_retF (by (try simp only [List.map_cons, List.map_nil]); repeat (first | (apply eL1; · exact zT0) | rfl)) zT5 zT7 ?_
    rfl
  · have hcc : cuts (brk ls) rows (64 * cols) 0 = some E := cuts_ends.2 ⟨hE, by omega⟩
    have hce : colsE (brk ls) rows cols = some (balE (brk ls) rows cols E) := by unfold colsE; rw [hcc]; rfl
    rw [hce]
    have hri := cuts_rises hcc
    have hbd : ∀ i, E.getD i 0 ≤ 1000000 := fun i => by
      by_cases hi : i < E.length
      · have := (hri.bd i hi).2; omega
      · rw [List.getD_eq_getElem?_getD, List.getElem?_eq_none (by omega)]; simp
    have hst := startOf_le hri cols
    have hla := ht_last E cols hc hc2 (by omega) hbd
    simp only [I, nl_len] at hla
    obtain ⟨F, hF⟩ : ∃ F, startOf E (lastF E cols) = F := ⟨_, rfl⟩
    have hfl : lastF E cols ≤ E.length := by rcases lastF_lt E cols with h1 | h1 <;> omega
    obtain ⟨f, hf⟩ : ∃ f, lastF E cols = f := ⟨_, rfl⟩
    have hbalE : balE (brk ls) rows cols E = match balF (brk ls) cols F 1 rows with | none => E | some l => E.take f ++ l := by unfold balE; rw [hF, hf]
    rw [hbalE]
    rw [hF] at hst hla
    rw [hf] at hla hfl
    obtain ⟨A, hA⟩ : ∃ A, brk ls = A := ⟨_, rfl⟩
    have hendsF := fun h (hh : h ≤ 100000) => ht_ends ls hl hb F h cols (by omega) hh (by omega)
    simp only [I, nl_len, hA] at hendsF
    rw [hA] at hbl hst ⊢
    have hnE := nl_len E
    have hw : win (HL.ints (nl E)) 0 (E.length * 1) = HL.ints (nl E) := win_all _ (by rw [HL.ints_len, hnE]; omega)
    repeat (first | refine F_mv zT0 rfl ?_ | refine F_nil zT1 ?_ | refine F_ext (by rfl) (by (try simp only [go_sem]); first | omega | decide) zT0 ?_ | refine F_lenR (by rfl) ?_ | refine hx_false (by rfl) ?_ | refine hx_seq ?_ | refine hx_region ?_ | refine hx_skip ?_ | refine F_mul (by rfl) (by rfl) (by (try simp (disch := omega) only [go_sem, Int.reduceAdd, Int.reduceSub, Int.reduceMul, hmul]); try rfl) ?_ | refine F_gtr (by rfl) (by rfl) zT6 ?_)
    refine F_call (by (try simp only [List.map_cons, List.map_nil]); repeat (first | (apply eL1; · exact zT0) | rfl)) (by simp (disch := omega) only [thawL, hw, HV.thaw, allIds, aget, nget, if_true, if_false, reduceIte, Nat.reduceEqDiff, stripL, HV.strip, win_intsE, win_boolsE, Nat.mul_one, List.cons_append, List.nil_append, List.append_nil, I, Bl, T3, List.getD_cons_zero, List.getD_cons_succ, HL.ints_strip, HL.bools_strip, trip_strip]; try rfl) (hla) ?_
    rintro _ rfl
    refine ⟨(by simp only [refFreeL, HV.refFree, noRdL, HV.noRd, HL.ints_noRd, HL.bools_noRd, trip_noRd, Bool.or_true, Bool.true_or, Bool.or_false, Bool.false_or, Bool.and_true, Bool.true_and, Bool.and_self, List.isEmpty_nil, beq_self_eq_true, List.cons_append, List.nil_append]), _, _, _, _, _, zT4, (by decide), (by simp only [upF, upS]; try rfl), ?_⟩
    repeat (first | refine F_mv zT0 rfl ?_ | refine F_nil zT1 ?_ | refine F_ext (by rfl) (by (try simp only [go_sem]); first | omega | decide) zT0 ?_ | refine hx_seq ?_ | refine hx_region ?_ | refine hx_block ?_)
    refine hx_loopG [0, 1, 2, 8, 10, 11, 12] (fun h : Nat => 1 ≤ h ∧ h ≤ rows + 1 ∧ balF A cols F 1 rows = balF A cols F h (rows + 1 - h))
      (fun h => ⟨[(0, .sl ls.length (HL.ints (nl ls))), (1, .int .i64 rows), (2, .int .i64 cols), (8, .ref 0 [] 1 0 E.length), (10, .int .i64 F), (11, .int .i64 f), (12, .int .i64 h)], [(0, .osl 1 E.length (HL.ints (nl E)))], 1⟩)
      (fun h => rows + 1 - h) 1 ⟨Nat.le_refl _, by omega, by simp⟩ rfl ?_
    rintro h ⟨h1, h2, hbal⟩
    by_cases hle : h ≤ rows
    · obtain ⟨k, hk⟩ : ∃ k, rows + 1 - h = k + 1 := ⟨rows - h, by omega⟩
      rw [hk, balF] at hbal
      repeat (first | refine F_mv zT0 rfl ?_ | refine F_nil zT1 ?_ | refine hx_true (by rfl) ?_ | refine hx_seq ?_ | refine hx_region ?_ | refine hx_block ?_ | refine hx_skip ?_ | refine F_leq (by rfl) (by rfl) (by first | exact leT (by omega) | exact leF (by omega) | rfl) ?_)
      refine F_call (by (try simp only [List.map_cons, List.map_nil]); repeat (first | (apply eL1; · exact zT0) | rfl)) (by simp (disch := omega) only [thawL, HV.thaw, allIds, aget, nget, if_true, if_false, reduceIte, Nat.reduceEqDiff, stripL, HV.strip, win_intsE, win_boolsE, Nat.mul_one, List.cons_append, List.nil_append, List.append_nil, I, Bl, T3, List.getD_cons_zero, List.getD_cons_succ, HL.ints_strip, HL.bools_strip, trip_strip]; try rfl) (hendsF h (by omega)) ?_
      rintro _ rfl
      have go_on : cuts A h cols F = none → balF A cols F 1 rows = balF A cols F (h + 1) (rows + 1 - (h + 1)) := fun e => by
        rw [e] at hbal; rw [hbal, show rows + 1 - (h + 1) = k by omega]
      cases hen : endsF A h (cols + 1) F with
      | none =>
        have hcn : cuts A h cols F = none := by
          cases hcc2 : cuts A h cols F with
          | none => rfl
          | some l => obtain ⟨h3, _⟩ := cuts_ends.1 hcc2; rw [hen] at h3; cases h3
        simp only [cutV]
        refine ⟨(by simp only [refFreeL, HV.refFree, noRdL, HV.noRd, HL.ints_noRd, HL.bools_noRd, trip_noRd, Bool.or_true, Bool.true_or, Bool.or_false, Bool.false_or, Bool.and_true, Bool.true_and, Bool.and_self, List.isEmpty_nil, beq_self_eq_true, List.cons_append, List.nil_append]), _, _, _, _, _, zT4, (by decide), (by simp only [upF, upS]; try rfl), ?_⟩
        repeat (first | refine F_mv zT0 rfl ?_ | refine F_no (by rfl) (by rfl) ?_ | refine F_nil zT1 ?_ | refine F_pickF (by rfl) zT0 ?_ | refine F_add (by rfl) (by rfl) zT11 ?_ | refine F_ext (by rfl) (by (try simp only [go_sem]); first | omega | decide) zT0 ?_ | refine hx_false (by rfl) ?_ | refine hx_seq ?_ | refine hx_region ?_ | refine hx_b ?_ | refine hx_skip ?_)
        exact hx_lG [0, 1, 2, 8, 10, 11, 12] (h + 1) ⟨by omega, by omega, go_on hcn⟩ (by omega) rfl
      | some l =>
        have hll := ends_len hen
        have hnl := nl_len l
        simp only [cutV]
        refine ⟨(by simp only [refFreeL, HV.refFree, noRdL, HV.noRd, HL.ints_noRd, HL.bools_noRd, trip_noRd, Bool.or_true, Bool.true_or, Bool.or_false, Bool.false_or, Bool.and_true, Bool.true_and, Bool.and_self, List.isEmpty_nil, beq_self_eq_true, List.cons_append, List.nil_append]), _, _, _, _, _, zT4, (by decide), (by simp only [upF, upS]; try rfl), ?_⟩
        by_cases hfit : l.length ≤ cols
        · have hcc2 : cuts A h cols F = some l := cuts_ends.2 ⟨hen, hfit⟩
          rw [hcc2] at hbal
          simp only at hbal
          have hw2 : win (HL.ints (nl E)) 0 (f * 1) = HL.ints (nl (E.take f)) := by
            rw [Nat.mul_one]
            unfold win
            rw [List.drop_zero]
            split
            · rename_i e; rw [List.take_of_length_le (l := E) (by rw [HL.ints_len, nl_len] at e; omega)]
            · rw [← nl_take]; simp [HL.ints, List.map_take]
          have hw2' : win (HL.ints (nl E)) 0 f = HL.ints (nl (E.take f)) := by rw [← hw2, Nat.mul_one]
          have hfT : (f ≤ E.length) = True := eq_true hfl
          have hw3 : win (HL.ints (nl l)) 0 (l.length * 1) = HL.ints (nl l) := win_all _ (by rw [HL.ints_len, hnl]; omega)
          have hw4 : win (HL.ints (nl (E.take f))) 0 (f * 1) = HL.ints (nl (E.take f)) := win_all _ (by rw [HL.ints_len, nl_len, List.length_take]; omega)
          have htl : (nl (E.take f)).length = f := by rw [nl_len, List.length_take]; omega
          have happ : HL.ints (nl (E.take f)) ++ HL.ints (nl l) = HL.ints (nl (E.take f ++ l)) := by simp [HL.ints, nl]
          rw [hbal]
          repeat (first | refine F_mv zT0 rfl ?_ | refine F_yes (by rfl) (by rfl) ?_ | refine F_nil zT1 ?_ | refine F_pickT (by rfl) zT0 ?_ | refine F_ext (by rfl) (by (try simp only [go_sem]); first | omega | decide) zT0 ?_ | refine F_lenR (by rfl) ?_ | refine hx_true (by rfl) ?_ | refine hx_seq ?_ | refine hx_region ?_ | refine F_mvnil rfl (by rfl) zT1 ?_ | refine F_leq (by rfl) (by rfl) (by first | exact leT (by omega) | exact leF (by omega) | rfl) ?_ | refine F_slcR (by rfl) (by rfl) (by rfl) (by omega) (by (try simp only [go_sem]); try rfl) zT1 ?_ | refine F_appR zT1 (by rfl) zT0 zT9 (by (try simp (disch := omega) only [go_sem, reduceIte, Nat.reduceEqDiff, Nat.reduceAdd, Nat.reduceMul, hw2, hw2', hnE, hfT, hw3, hw4, happ]); try omega) (by first | exact eO rfl | exact eW rfl) (by (try simp (disch := omega) only [go_sem, reduceIte, Nat.reduceEqDiff, Nat.reduceAdd, Nat.reduceMul, hw2, hw2', hnE, hfT, hw3, hw4, happ]); try rfl) zT1 (by omega) (by unfold maxLen; omega) (by (try simp only [go_sem]); first | omega | decide) (by (try simp (disch := omega) only [go_sem, reduceIte, Nat.reduceEqDiff, Nat.reduceAdd, Nat.reduceMul, hw2, hw2', hnE, hfT, hw3, hw4, happ]); try rfl) (by (try simp only [go_sem]); try rfl) ?_)
          refine hx_retF (by (try simp only [List.map_cons, List.map_nil]); repeat (first | (apply eL1; · exact zT0) | rfl)) zT5 zT7 ?_
          simp only [tupOf, colsV, List.length_append, List.length_take, Nat.min_eq_left hfl]
        · have hcn : cuts A h cols F = none := by
            cases hcc2 : cuts A h cols F with
            | none => rfl
            | some l' => obtain ⟨h3, h4⟩ := cuts_ends.1 hcc2; rw [hen] at h3; cases h3; omega
          repeat (first | refine F_mv zT0 rfl ?_ | refine F_yes (by rfl) (by rfl) ?_ | refine F_nil zT1 ?_ | refine F_pickT (by rfl) zT0 ?_ | refine F_add (by rfl) (by rfl) zT11 ?_ | refine F_ext (by rfl) (by (try simp only [go_sem]); first | omega | decide) zT0 ?_ | refine F_lenR (by rfl) ?_ | refine hx_false (by rfl) ?_ | refine hx_seq ?_ | refine hx_region ?_ | refine hx_b ?_ | refine hx_skip ?_ | refine F_leq (by rfl) (by rfl) (by first | exact leT (by omega) | exact leF (by omega) | rfl) ?_)
          exact hx_lG [0, 1, 2, 8, 10, 11, 12] (h + 1) ⟨by omega, by omega, go_on hcn⟩ (by omega) rfl
    · obtain rfl : h = rows + 1 := by omega
      rw [Nat.sub_self, balF] at hbal
      rw [hbal]
      repeat (first | refine F_mv zT0 rfl ?_ | refine F_nil zT1 ?_ | refine hx_exitS (by rfl) ?_ | refine hx_false (by rfl) ?_ | refine hx_seq ?_ | refine hx_region ?_ | refine F_leq (by rfl) (by rfl) (by first | exact leT (by omega) | exact leF (by omega) | rfl) ?_)
      refine hx_retF (by (try simp only [List.map_cons, List.map_nil]); repeat (first | (apply eL1; · exact zT0) | rfl)) zT5 zT7 ?_
      rfl
end Go.Proofs.Ytpffacaeonccpaa
