/-
  OWN WORK. Both Fills, in the value language.
-/
import Derived.Test.YtpffacaeonccpaaCoF
set_option linter.unusedSimpArgs false
set_option linter.unusedVariables false
namespace Go.Proofs.Ytpffacaeonccpaa
open Go.RowKit Go.HL

abbrev Tr := Int × Int × Int
def rowsT (R : List (List Tr)) : List HV := R.map fun r => .sl r.length (HL.trip r)
def rowsTO (R : List (List Tr)) : List HV := R.map fun r => .osl 3 r.length (HL.trip r)
theorem rowsT_len (R : List (List Tr)) : (rowsT R).length = R.length := by simp [rowsT]
theorem rowsTO_len (R : List (List Tr)) : (rowsTO R).length = R.length := by simp [rowsTO]
theorem rowsT_snoc (R : List (List Tr)) (x : List Tr) : rowsT R ++ [.sl x.length (HL.trip x)] = rowsT (R ++ [x]) := by simp [rowsT]
theorem rowsTO_strip (R : List (List Tr)) : stripL (rowsTO R) = rowsT R := by
  induction R with
  | nil => rfl
  | cons r R ih => simp only [rowsTO, rowsT, List.map_cons, stripL, HV.strip, HL.trip_strip] at ih ⊢; rw [ih]
theorem rowsT_strip (R : List (List Tr)) : stripL (rowsT R) = rowsT R := by
  induction R with
  | nil => rfl
  | cons r R ih => simp only [rowsT, List.map_cons, stripL, HV.strip, HL.trip_strip] at ih ⊢; rw [ih]
theorem rowsTO_get (R : List (List Tr)) {i : Nat} (h : i < R.length) : (rowsTO R).getD i .dead = .osl 3 (R.getD i []).length (HL.trip (R.getD i [])) := by
  simp [rowsTO, List.getD_eq_getElem?_getD, h]
theorem rowsT_get (R : List (List Tr)) {i : Nat} (h : i < R.length) : (rowsT R).getD i .dead = .sl (R.getD i []).length (HL.trip (R.getD i [])) := by
  simp [rowsT, List.getD_eq_getElem?_getD, h]
theorem rowsTO_set (R : List (List Tr)) (i : Nat) (x : List Tr) : (rowsTO R).set i (.osl 3 x.length (HL.trip x)) = rowsTO (R.set i x) := by simp [rowsTO]
theorem rowsTO_nil (n : Nat) : (List.replicate n [HV.osl 3 0 []]).flatten = rowsTO (List.replicate n []) := by
  induction n with
  | zero => rfl
  | succ n ih => rw [List.replicate_succ, List.flatten_cons, ih, List.replicate_succ]; rfl
theorem trip_cut (l : List Tr) (o n : Nat) : (HL.trip l).drop (o * 3) = HL.trip (l.drop o) ∧ (HL.trip l).take (n * 3) = HL.trip (l.take n) := by
  have d : ∀ (l : List Tr) (o : Nat), (HL.trip l).drop (o * 3) = HL.trip (l.drop o) := by
    intro l
    induction l with
    | nil => intro o; simp [HL.trip]
    | cons x r ih =>
      intro o
      cases o with
      | zero => simp
      | succ o =>
        rw [show (o + 1) * 3 = o * 3 + 1 + 1 + 1 by omega]
        exact ih o
  have t : ∀ (l : List Tr) (n : Nat), (HL.trip l).take (n * 3) = HL.trip (l.take n) := by
    intro l
    induction l with
    | nil => intro n; simp [HL.trip]
    | cons x r ih =>
      intro n
      cases n with
      | zero => simp [HL.trip]
      | succ n =>
        rw [show (n + 1) * 3 = n * 3 + 1 + 1 + 1 by omega]
        have := ih n
        show _ :: _ :: _ :: (HL.trip r).take (n * 3) = _
        rw [this]; rfl
  exact ⟨d l o, t l n⟩
theorem trip_part (l : List Tr) (o n : Nat) (h : o + n ≤ l.length) : win (HL.trip l) (o * 3) (n * 3) = HL.trip ((l.drop o).take n) := by
  unfold win
  split
  · rename_i e
    rw [HL.trip_len] at e
    have h0 : o = 0 := by omega
    subst h0
    rw [List.drop_zero, List.take_of_length_le (by omega)]
  · rw [(trip_cut l o n).1, (trip_cut _ o n).2]

/-- What Fill returns: the program's rows are its own, the reference's are parts of one. -/
def fillV (mk : List (List Tr) → List HV) (ls : List Nat) (cols : Nat) : Option (List Nat) → HV
  | none => .tup [.osl 1 0 [], .int .i64 4]
  | some E => .tup [.osl 1 ls.length (mk (rowsF (slotOf cols E) 0 ls)), .int .i64 0]

theorem slot_at {m : Nat} {E : List Nat} (h : Rises m 0 E) (cols i p : Nat) (hi : i < E.length) (h1 : startOf E i ≤ p) (h2 : p < E.getD i 0) : slotOf cols E p = (((i / cols : Nat) : Int), ((i % cols : Nat) : Int), (p : Int) - (startOf E i : Nat)) := by
  have hc : cLe E p = i := by
    refine h.cLe_at i p hi ?_ h2
    unfold startOf at h1
    split at h1
    · left; assumption
    · right; exact h1
  unfold slotOf
  rw [hc]
theorem startOf_succ (E : List Nat) (i : Nat) : startOf E (i + 1) = E.getD i 0 := by unfold startOf; rw [if_neg (by omega)]; rfl
theorem rises_step {m : Nat} {E : List Nat} (h : Rises m 0 E) : ∀ i, i < E.length → startOf E i < E.getD i 0 := by
  have aux : ∀ {E : List Nat} {p : Nat}, Rises m p E → ∀ i, i + 1 < E.length → E.getD i 0 < E.getD (i + 1) 0 := by
    intro E
    induction E with
    | nil => intro p _ i hi; simp at hi
    | cons e r ih =>
      intro p hh i hi
      cases hh with
      | cons a b c =>
        cases i with
        | zero =>
          have := c.bd 0 (by simpa using hi)
          simpa using this.1
        | succ i => simpa using ih c i (by simpa using hi)
  intro i hi
  unfold startOf
  split
  · exact (h.bd i hi).1
  · have := aux h (i - 1) (by omega)
    rwa [show i - 1 + 1 = i by omega] at this

set_option maxHeartbeats 16000000 in
theorem ht_rfill (ls : List Nat) (hl : ls.length ≤ 512) (hb : ∀ n ∈ ls, 0 < n ∧ n ≤ 512) (rows cols : Nat) (hr : 3 ≤ rows) (hr2 : rows ≤ 256) (hc : 0 < cols) (hc2 : cols ≤ 8) :
    HT Try.prog 6 [I (nl ls), .int .i64 rows, .int .i64 cols] (fun r => r = fillV rowsT ls cols (colsE (brk ls) rows cols)) := by
  have hT := sum_take_bd ls hb ls.length (Nat.le_refl _)
  rw [List.take_length] at hT
  have hbl := brk_len ls
  have hv := ht_rcolValid (nl ls) rows cols (by rw [nl_len]; omega)
  have hcv : CVal (nl ls) rows cols := ⟨by omega, by omega, by omega, by omega, by rw [nl_len]; omega, fun x hx => by
    obtain ⟨n, hn, rfl⟩ := List.mem_map.1 hx
    have := hb n hn
    omega⟩
  rw [decide_eq_true hcv] at hv
  have hcu := ht_cuts ls hl hb rows cols hr hr2 hc hc2
  simp only [I, nl_len] at hv hcu
  refine HT.of rfl fc6 (Nat.le_of_ble_eq_true rfl) ?_
  unfold c6
  simp only [I, nl_len, argSlots, Nat.reduceAdd]
  repeat (first | refine F_mv zT0 rfl ?_ | refine F_nil zT1 ?_ | refine hx_seq ?_ | refine hx_region ?_ | refine F_mvnil rfl (by rfl) zT1 ?_)
  refine F_call (by (try simp only [List.map_cons, List.map_nil]); repeat (first | (apply eL1; · exact zT0) | rfl)) (by simp (disch := omega) only [thawL, HV.thaw, allIds, aget, nget, if_true, if_false, reduceIte, Nat.reduceEqDiff, stripL, HV.strip, win_intsE, win_boolsE, Nat.mul_one, List.cons_append, List.nil_append, List.append_nil, I, Bl, T3, List.getD_cons_zero, List.getD_cons_succ, HL.ints_strip, HL.bools_strip, trip_strip]; try rfl) (hv) ?_
  rintro _ rfl
  refine ⟨(by simp only [refFreeL, HV.refFree, noRdL, HV.noRd, HL.ints_noRd, HL.bools_noRd, trip_noRd, Bool.or_true, Bool.true_or, Bool.or_false, Bool.false_or, Bool.and_true, Bool.true_and, Bool.and_self, List.isEmpty_nil, beq_self_eq_true, List.cons_append, List.nil_append]), _, _, _, _, _, zT4, (by decide), (by simp only [upF, upS]; try rfl), ?_⟩
  repeat (first | refine F_mv zT0 rfl ?_ | refine F_nil zT1 ?_ | refine hx_false (by rfl) ?_ | refine hx_seq ?_ | refine hx_region ?_ | refine hx_skip ?_ | refine F_notT (by rfl) ?_)
  refine F_call (by (try simp only [List.map_cons, List.map_nil]); repeat (first | (apply eL1; · exact zT0) | rfl)) (by simp (disch := omega) only [thawL, HV.thaw, allIds, aget, nget, if_true, if_false, reduceIte, Nat.reduceEqDiff, stripL, HV.strip, win_intsE, win_boolsE, Nat.mul_one, List.cons_append, List.nil_append, List.append_nil, I, Bl, T3, List.getD_cons_zero, List.getD_cons_succ, HL.ints_strip, HL.bools_strip, trip_strip]; try rfl) (hcu) ?_
  rintro _ rfl
  cases hce : colsE (brk ls) rows cols with
  | none =>
    simp only [colsV]
    refine ⟨(by simp only [refFreeL, HV.refFree, noRdL, HV.noRd, HL.ints_noRd, HL.bools_noRd, trip_noRd, Bool.or_true, Bool.true_or, Bool.or_false, Bool.false_or, Bool.and_true, Bool.true_and, Bool.and_self, List.isEmpty_nil, beq_self_eq_true, List.cons_append, List.nil_append]), _, _, _, _, _, zT4, (by decide), (by simp only [upF, upS]; try rfl), ?_⟩
    repeat (first | refine F_mv zT0 rfl ?_ | refine F_nil zT1 ?_ | refine F_neq (by rfl) (by rfl) (by first | exact neF (by omega) | exact neT (by omega) | rfl) ?_ | refine F_ext (by rfl) (by (try simp only [go_sem]); first | omega | decide) zT0 ?_ | refine hx_true (by rfl) ?_ | refine hx_seq ?_ | refine hx_region ?_ | refine F_mvnil rfl (by rfl) zT1 ?_)
    refine hx_retF (by (try simp only [List.map_cons, List.map_nil]); repeat (first | (apply eL1; · exact zT0) | rfl)) zT5 zT7 ?_
    rfl
  | some E =>
    have hri : Rises ((brk ls).length - 1) 0 E := by
      unfold colsE at hce
      rw [Option.map_eq_some_iff] at hce
      obtain ⟨E0, h1, rfl⟩ := hce
      exact balE_rises (cuts_rises h1)
    rw [hbl, Nat.add_sub_cancel] at hri
    have hEb : E.length ≤ 300000 := by
      have : ∀ {E : List Nat} {p : Nat}, Rises ls.sum p E → E.length + p ≤ ls.sum + p ∧ (p ≤ ls.sum → E.length + p ≤ ls.sum) := by
        intro E
        induction E with
        | nil => intro p _; simp
        | cons e r ih =>
          intro p hh
          cases hh with
          | cons a b c =>
            have := ih c
            simp only [List.length_cons]
            have := this.2 b
            omega
      have := (this hri).2 (by omega)
      omega
    have hnE := nl_len E
    simp only [colsV]
    refine ⟨(by simp only [refFreeL, HV.refFree, noRdL, HV.noRd, HL.ints_noRd, HL.bools_noRd, trip_noRd, Bool.or_true, Bool.true_or, Bool.or_false, Bool.false_or, Bool.and_true, Bool.true_and, Bool.and_self, List.isEmpty_nil, beq_self_eq_true, List.cons_append, List.nil_append]), _, _, _, _, _, zT4, (by decide), (by simp only [upF, upS]; try rfl), ?_⟩
    repeat (first | refine F_mv zT0 rfl ?_ | refine F_nil zT1 ?_ | refine F_neq (by rfl) (by rfl) (by first | exact neF (by omega) | exact neT (by omega) | rfl) ?_ | refine F_ext (by rfl) (by (try simp only [go_sem]); first | omega | decide) zT0 ?_ | refine hx_false (by rfl) ?_ | refine hx_seq ?_ | refine hx_region ?_ | refine hx_block ?_ | refine hx_skip ?_ | refine F_mvnil rfl (by rfl) zT1 ?_)
    refine hx_loopG [0, 2, 8, 10, 11, 12] (fun i : Nat => i ≤ E.length)
      (fun i => ⟨[(0, .sl ls.length (HL.ints (nl ls))), (2, .int .i64 cols), (8, .ref 0 [] 1 0 E.length), (10, .ref 1 [] 3 0 (startOf E i)), (11, .int .i64 (startOf E i : Nat)), (12, .int .i64 i)], [(0, .osl 1 E.length (HL.ints (nl E))), (1, .osl 3 (startOf E i) (HL.trip ((List.range (startOf E i)).map (slotOf cols E))))], 2⟩)
      (fun i => E.length - i) 0 (by omega) rfl ?_
    intro i hi
    by_cases hiE : i < E.length
    · have hei := nl_getD E i
      have hst := startOf_succ E i
      have hbd := (hri.bd i hiE).2
      have hlt := rises_step hri i hiE
      obtain ⟨e, hee⟩ : ∃ e, E.getD i 0 = e := ⟨_, rfl⟩
      obtain ⟨s, hs⟩ : ∃ s, startOf E i = s := ⟨_, rfl⟩
      have hsl := fun p (h1 : s ≤ p) (h2 : p < e) => slot_at hri cols i p hiE (by rw [hs]; exact h1) (by rw [hee]; exact h2)
      rw [hee] at hei hst hbd hlt
      rw [hs] at hlt hsl ⊢
      have e2 : (i : Int).tdiv (cols : Int) = ((i / cols : Nat) : Int) := (Int.ofNat_tdiv _ _).symm
      have e3 : (i : Int).tmod (cols : Int) = ((i % cols : Nat) : Int) := (Int.ofNat_tmod _ _).symm
      have hq : i / cols ≤ i := Nat.div_le_self _ _
      have hq2 : i % cols < cols := Nat.mod_lt _ hc
      obtain ⟨q, hqe⟩ : ∃ q, i / cols = q := ⟨_, rfl⟩
      obtain ⟨m, hme⟩ : ∃ m, i % cols = m := ⟨_, rfl⟩
      rw [hqe] at e2 hq
      rw [hme] at e3 hq2
      simp only [hqe, hme] at hsl
      repeat (first | refine F_mv zT0 rfl ?_ | refine F_nil zT1 ?_ | refine F_lss (by rfl) (by rfl) zT6 ?_ | refine F_lenR (by rfl) ?_ | refine hx_true (by rfl) ?_ | refine hx_seq ?_ | refine hx_region ?_ | refine hx_block ?_ | refine hx_skip ?_)
      refine hx_loopG [0, 2, 8, 10, 11, 12, 13] (fun p : Nat => s ≤ p ∧ p ≤ e)
        (fun p => ⟨[(0, .sl ls.length (HL.ints (nl ls))), (2, .int .i64 cols), (8, .ref 0 [] 1 0 E.length), (10, .ref 1 [] 3 0 p), (11, .int .i64 s), (12, .int .i64 i), (13, .int .i64 p)], [(0, .osl 1 E.length (HL.ints (nl E))), (1, .osl 3 p (HL.trip ((List.range p).map (slotOf cols E))))], 2⟩)
        (fun p => e - p) s ⟨Nat.le_refl _, by omega⟩ rfl ?_
      rintro p ⟨h1, h2⟩
      by_cases hpe : p < e
      · have hsp := hsl p h1 hpe
        have hnx : HL.trip ((List.range p).map (slotOf cols E)) ++ [.int .i64 (q : Int), .int .i64 (m : Int), .int .i64 ((p : Int) - (s : Nat))] = HL.trip ((List.range (p + 1)).map (slotOf cols E)) := by
          rw [HL.trip_snoc, List.range_succ, List.map_append, List.map_cons, List.map_nil, hsp]
        have hlen : (HL.trip ((List.range p).map (slotOf cols E))).length = p * 3 := by rw [HL.trip_len]; simp
        have hw : win (HL.trip ((List.range p).map (slotOf cols E))) 0 (p * 3) = HL.trip ((List.range p).map (slotOf cols E)) := win_all _ hlen.symm
        repeat (first | refine F_mv zT0 rfl ?_ | refine F_iaR (by rfl) (by rfl) (by omega) zT1 ?_ | refine F_ldR (by rfl) (by first | exact eO rfl | exact eW rfl) (by (try simp (disch := omega) only [go_sem, reduceIte, Nat.reduceEqDiff, Nat.reduceAdd, Nat.reduceMul, hei]); try rfl) (by (try simp only [go_sem]); first | omega | decide) (by (try simp (disch := omega) only [go_sem, hei]); try rfl) zT0 ?_ | refine F_nil zT1 ?_ | refine F_lss (by rfl) (by rfl) zT6 ?_ | refine hx_true (by rfl) ?_ | refine hx_seq ?_ | refine hx_region ?_ | refine hx_block ?_ | refine hx_skip ?_)
        refine hx_draw (by kernel_rfl) (by kernel_rfl) (fun _ _ _ => False) ?_
        repeat (first | refine F_mv zT0 rfl ?_ | refine F_nil zT1 ?_ | refine F_add (by rfl) (by rfl) (by (try simp (disch := omega) only [go_sem, Int.reduceAdd, Int.reduceSub, Int.reduceMul, e2, e3, hw, hnx, hlen]); try rfl) ?_ | refine hx_region ?_ | refine hx_b ?_ | refine F_sub (by rfl) (by rfl) (by (try simp (disch := omega) only [go_sem, Int.reduceAdd, Int.reduceSub, Int.reduceMul, e2, e3, hw, hnx, hlen]); try rfl) ?_ | refine F_quo (by rfl) (by rfl) (by omega) (by (try simp (disch := omega) only [go_sem, Int.reduceAdd, Int.reduceSub, Int.reduceMul, e2, e3, hw, hnx, hlen]); try rfl) ?_ | refine F_rem (by rfl) (by rfl) (by omega) (by (try simp (disch := omega) only [go_sem, Int.reduceAdd, Int.reduceSub, Int.reduceMul, e2, e3, hw, hnx, hlen]); try rfl) ?_ | refine F_bsl zT1 (by (try simp only [List.map_cons, List.map_nil]); repeat (first | (apply eL1; · exact zT0) | rfl)) (by (try simp only [go_sem]); try rfl) (by first | rfl | exact HL.ints_flat _ | exact HL.bools_flat _) (by rfl) (by rfl) ?_ | refine F_appR zT1 (by rfl) zT0 zT9 (by (try simp (disch := omega) only [go_sem, reduceIte, Nat.reduceEqDiff, Nat.reduceAdd, Nat.reduceMul, e2, e3, hw, hnx, hlen]); try omega) (by first | exact eO rfl | exact eW rfl) (by (try simp (disch := omega) only [go_sem, reduceIte, Nat.reduceEqDiff, Nat.reduceAdd, Nat.reduceMul, e2, e3, hw, hnx, hlen]); try rfl) zT1 (by omega) (by unfold maxLen; omega) (by (try simp only [go_sem]); first | omega | decide) (by (try simp (disch := omega) only [go_sem, reduceIte, Nat.reduceEqDiff, Nat.reduceAdd, Nat.reduceMul, e2, e3, hw, hnx, hlen]); try rfl) (by (try simp only [go_sem]); try rfl) ?_ | refine F_bld (by (try simp only [List.map_cons, List.map_nil]); repeat (first | (apply eP1; · exact zT0) | rfl)) (by simp only [fillAt, setFrom, cellsOf, List.set_cons_zero, List.set_cons_succ]; try rfl) (by simp [notDead]) ?_)
        exact hx_lG [0, 2, 8, 10, 11, 12, 13] (p + 1) ⟨by omega, by omega⟩ (by omega) (by rw [List.range_succ]; rfl)
      · obtain rfl : p = e := by omega
        repeat (first | refine F_mv zT0 rfl ?_ | refine F_iaR (by rfl) (by rfl) (by omega) zT1 ?_ | refine F_ldR (by rfl) (by first | exact eO rfl | exact eW rfl) (by (try simp (disch := omega) only [go_sem, reduceIte, Nat.reduceEqDiff, Nat.reduceAdd, Nat.reduceMul, hei]); try rfl) (by (try simp only [go_sem]); first | omega | decide) (by (try simp (disch := omega) only [go_sem, hei]); try rfl) zT0 ?_ | refine F_nil zT1 ?_ | refine F_lss (by rfl) (by rfl) zT6 ?_ | refine F_add (by rfl) (by rfl) (by (try simp (disch := omega) only [go_sem, Int.reduceAdd, Int.reduceSub, Int.reduceMul, hei]); try rfl) ?_ | refine hx_exitS (by rfl) ?_ | refine hx_false (by rfl) ?_ | refine hx_seq ?_ | refine hx_region ?_ | refine hx_b ?_)
        exact hx_lG [0, 2, 8, 10, 11, 12] (i + 1) hiE (by omega) (by rw [hst]; rfl)
    · obtain rfl : i = E.length := by omega
      have hsT : startOf E E.length = ls.sum := by
        by_cases h0 : ls.sum = 0
        · cases hri with
          | nil => rw [h0]; rfl
          | cons a b c => omega
        · have := hri.last (by omega)
          unfold startOf
          rw [if_neg (fun h => this.1 (List.eq_nil_of_length_eq_zero h)), this.2]
      rw [hsT]
      obtain ⟨L, hL⟩ : ∃ L, (List.range ls.sum).map (slotOf cols E) = L := ⟨_, rfl⟩
      have hLl : L.length = ls.sum := by rw [← hL]; simp
      rw [hL]
      have hfz : stripL (win (HL.trip L) 0 (ls.sum * 3)) = HL.trip L := by rw [win_all _ (by rw [HL.trip_len, hLl]), HL.trip_strip]
      repeat (first | refine F_mv zT0 rfl ?_ | refine F_nil zT1 ?_ | refine F_lss (by rfl) (by rfl) zT6 ?_ | refine F_lenR (by rfl) ?_ | refine hx_exitS (by rfl) ?_ | refine hx_false (by rfl) ?_ | refine hx_seq ?_ | refine hx_region ?_ | refine hx_block ?_ | refine F_mvnil rfl (by rfl) zT1 ?_)
      refine hx_dropN [0, 10, 14, 15, 16] (⟨[(0, .sl ls.length (HL.ints (nl ls))), (10, .ref 0 [] 3 0 ls.sum), (14, .ref 1 [] 1 0 0), (15, .int .i64 0), (16, .int .i64 0)], [(0, .osl 3 ls.sum (HL.trip L)), (1, .osl 1 0 [])], 2⟩ : St) rfl ?_
      refine hx_freezeN 0 [0, 10, 14, 15, 16] _ (congrArg (fun c : List HV => (⟨[(0, .sl ls.length (HL.ints (nl ls))), (10, .sl ls.sum c), (14, .ref 0 [] 1 0 0), (15, .int .i64 0), (16, .int .i64 0)], [(0, .osl 1 0 [])], 1⟩ : St)) hfz) ?_
      obtain ⟨RR, hRR⟩ : ∃ RR, rowsF (slotOf cols E) 0 ls = RR := ⟨_, rfl⟩
      have hRl : RR.length = ls.length := by rw [← hRR]; exact rowsF_len _ _ _
      refine hx_loopG [0, 10, 14, 15, 16] (fun i : Nat => i ≤ ls.length)
        (fun i => ⟨[(0, .sl ls.length (HL.ints (nl ls))), (10, .sl ls.sum (HL.trip L)), (14, .ref 0 [] 1 0 i), (15, .int .i64 ((ls.take i).sum : Nat)), (16, .int .i64 i)], [(0, .osl 1 i (rowsT (RR.take i)))], 1⟩)
        (fun i => ls.length - i) 0 (by omega) rfl ?_
      intro i hi
      by_cases hil : i < ls.length
      · have hng := nl_getD ls i
        have hnb := hb _ (getD_memI ls 0 hil)
        have hs2 := sum_take_succ ls hil
        have hs3 := sum_take_le ls (i + 1)
        have hil' : i < (nl ls).length := by rw [nl_len]; exact hil
        have hrow := rowsF_get (slotOf cols E) ls 0 i hil
        rw [hRR] at hrow
        obtain ⟨n, hn⟩ : ∃ n, ls.getD i 0 = n := ⟨_, rfl⟩
        obtain ⟨s, hss⟩ : ∃ s, (ls.take i).sum = s := ⟨_, rfl⟩
        rw [hn] at hng hnb hs2 hrow
        rw [hss] at hs2 hrow ⊢
        rw [hs2] at hs3
        have hpart : (L.drop s).take n = RR.getD i [] := by
          rw [hrow, ← hL]
          apply List.ext_getElem?
          intro k
          by_cases hk : k < n
          · rw [List.getElem?_take_of_lt hk, List.getElem?_drop, List.getElem?_map, List.getElem?_map, List.getElem?_range (by omega), List.getElem?_range hk]
            simp
          · rw [List.getElem?_eq_none (by simp; omega), List.getElem?_eq_none (by simp; omega)]
        have hrl : (RR.getD i []).length = n := by rw [hrow]; simp
        have hwin : win (HL.trip L) (s * 3) (n * 3) = HL.trip (RR.getD i []) := by rw [trip_part _ _ _ (by omega), hpart]
        have htk : RR.take (i + 1) = RR.take i ++ [RR.getD i []] := by
          rw [List.take_succ_eq_append_getElem (by omega)]
          congr 2
          simp [List.getD_eq_getElem?_getD, hRl, hil]
        have hnx : rowsT (RR.take i) ++ [.sl n (HL.trip (RR.getD i []))] = rowsT (RR.take (i + 1)) := by
          rw [htk, ← rowsT_snoc, hrl]
        have hRtl : (RR.take i).length = i := by rw [List.length_take]; omega
        have hlen : (rowsT (RR.take i)).length = i := by rw [rowsT_len, hRtl]
        have hw : win (rowsT (RR.take i)) 0 i = rowsT (RR.take i) := win_all _ hlen.symm
        have hcast : (s : Int) + (n : Int) = ((s + n : Nat) : Int) := by omega
        repeat (first | refine F_mv zT0 rfl ?_ | refine F_iaS (by rfl) (by rfl) (by omega) zT1 ?_ | refine F_ldP (by rfl) (by (try simp only [go_sem]); first | omega | decide) (by (try simp (disch := omega) only [go_sem, hng, hcast]); try rfl) ?_ | refine F_nil zT1 ?_ | refine F_lss (by rfl) (by rfl) zT6 ?_ | refine F_add (by rfl) (by rfl) (by (try simp (disch := omega) only [go_sem, Int.reduceAdd, Int.reduceSub, Int.reduceMul, hng, hcast]); try rfl) ?_ | refine F_lenS (by rfl) ?_ | refine hx_true (by rfl) ?_ | refine hx_seq ?_ | refine hx_region ?_ | refine hx_block ?_ | refine hx_skip ?_)
        refine F_slcS (a := s) (b := ((s + n : Nat) : Int)) (by rfl) (by rfl) (by rfl) (by omega) (m := n) (by omega) (o := s * 3) (by rw [Int.toNat_natCast]) hwin ?_
        repeat (first | refine F_mv zT0 rfl ?_ | refine F_iaS (by rfl) (by rfl) (by omega) zT1 ?_ | refine F_ldP (by rfl) (by (try simp only [go_sem]); first | omega | decide) (by (try simp (disch := omega) only [go_sem, hng, hw, hnx, hlen, hcast]); try rfl) ?_ | refine F_nil zT1 ?_ | refine F_add (by rfl) (by rfl) (by (try simp (disch := omega) only [go_sem, Int.reduceAdd, Int.reduceSub, Int.reduceMul, hng, hw, hnx, hlen, hcast]); try rfl) ?_ | refine hx_region ?_ | refine hx_b ?_ | refine F_bsl zT1 (by (try simp only [List.map_cons, List.map_nil]); repeat (first | (apply eL1; · exact zT0) | rfl)) (by (try simp only [go_sem]); try rfl) (by first | rfl | exact HL.ints_flat _ | exact HL.bools_flat _) (by rfl) (by rfl) ?_ | refine F_appRG zT1 (by rfl) zT0 zT9 (by simp [allCell_cons, allCell_nil, cellV]) (by first | exact eO rfl | exact eW rfl) (by (try simp only [go_sem]); try rfl) zT1 (by omega) (by unfold maxLen; omega) (by (try simp only [go_sem]); first | omega | decide) (by (try simp (disch := omega) only [go_sem, reduceIte, Nat.reduceEqDiff, Nat.reduceAdd, Nat.reduceMul, hng, hw, hnx, hlen, hcast]); try rfl) (by (try simp only [go_sem]); try rfl) (by rfl) ?_)
        exact hx_lG [0, 10, 14, 15, 16] (i + 1) hil (by omega) (by rw [hs2]; rfl)
      · obtain rfl : i = ls.length := by omega
        rw [List.take_of_length_le (l := RR) (by omega)]
        repeat (first | refine F_mv zT0 rfl ?_ | refine F_nil zT1 ?_ | refine F_lss (by rfl) (by rfl) zT6 ?_ | refine F_lenS (by rfl) ?_ | refine hx_exitS (by rfl) ?_ | refine hx_false (by rfl) ?_ | refine hx_seq ?_ | refine hx_region ?_)
        refine hx_retF (by (try simp only [List.map_cons, List.map_nil]); repeat (first | (apply eL1; · exact zT0) | rfl)) zT5 zT7 ?_
        rw [← hRR]; rfl
end Go.Proofs.Ytpffacaeonccpaa
