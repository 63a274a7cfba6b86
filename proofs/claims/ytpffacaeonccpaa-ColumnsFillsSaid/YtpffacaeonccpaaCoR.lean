/-
  OWN WORK. The reference's breaks and columns, in the value language.
-/
import Derived.Test.YtpffacaeonccpaaCoA
set_option linter.unusedSimpArgs false
set_option linter.unusedVariables false
namespace Go.Proofs.Ytpffacaeonccpaa
open Go.RowKit Go.HL

theorem sum_take_bd (ls : List Nat) (hb : ∀ n ∈ ls, 0 < n ∧ n ≤ 512) : ∀ k, k ≤ ls.length → (ls.take k).sum ≤ 512 * k := fun k => by
  induction k with
  | zero => intro _; simp
  | succ k ih =>
    intro hk
    rw [List.take_succ_eq_append_getElem (by omega), List.sum_append]
    have := (hb ls[k] (List.getElem_mem _)).2
    have := ih (by omega)
    simp; omega
theorem sum_take_succ (ls : List Nat) {i : Nat} (h : i < ls.length) : (ls.take (i + 1)).sum = (ls.take i).sum + ls.getD i 0 := by
  rw [List.take_succ_eq_append_getElem h, List.sum_append]
  simp [List.getD_eq_getElem?_getD, h]
theorem sum_take_le (ls : List Nat) (i : Nat) : (ls.take i).sum ≤ ls.sum := by
  have := List.take_append_drop i ls
  have h2 := congrArg List.sum this
  rw [List.sum_append] at h2
  omega

theorem ht_rcolValid (l : List Int) (rows cols : Int) (hl : l.length ≤ 9223372036854775807) : HT Try.prog 8 [I l, .int .i64 rows, .int .i64 cols] (fun r => r = .bool (decide (CVal l rows cols))) := by
  refine HT.of rfl fc8 (Nat.le_of_ble_eq_true rfl) ?_
  unfold c8
  simp only [I, argSlots, Nat.reduceAdd]
  by_cases h5 : 512 < (l.length : Int)
  · repeat (first | refine F_mv zT0 rfl ?_ | refine F_no (by rfl) (by rfl) ?_ | refine F_nil zT1 ?_ | refine F_pickT (by rfl) zT0 ?_ | refine F_lenS (by rfl) ?_ | refine hx_true (by rfl) ?_ | refine hx_seq ?_ | refine hx_region ?_ | refine F_gtr (by rfl) (by rfl) zT6 ?_)
    refine hx_retF (by (try simp only [List.map_cons, List.map_nil]); repeat (first | (apply eL1; · exact zT0) | rfl)) zT5 zT7 ?_
    rw [decide_eq_false (by unfold CVal; omega)]; rfl
  by_cases h1 : rows < 3
  · repeat (first | refine F_mv zT0 rfl ?_ | refine F_yes (by rfl) (by rfl) ?_ | refine F_no (by rfl) (by rfl) ?_ | refine F_nil zT1 ?_ | refine F_lss (by rfl) (by rfl) zT6 ?_ | refine F_pickT (by rfl) zT0 ?_ | refine F_pickF (by rfl) zT0 ?_ | refine F_lenS (by rfl) ?_ | refine hx_true (by rfl) ?_ | refine hx_seq ?_ | refine hx_region ?_ | refine F_gtr (by rfl) (by rfl) zT6 ?_)
    refine hx_retF (by (try simp only [List.map_cons, List.map_nil]); repeat (first | (apply eL1; · exact zT0) | rfl)) zT5 zT7 ?_
    rw [decide_eq_false (by unfold CVal; omega)]; rfl
  by_cases h2 : 256 < rows
  · repeat (first | refine F_mv zT0 rfl ?_ | refine F_yes (by rfl) (by rfl) ?_ | refine F_no (by rfl) (by rfl) ?_ | refine F_nil zT1 ?_ | refine F_lss (by rfl) (by rfl) zT6 ?_ | refine F_pickT (by rfl) zT0 ?_ | refine F_pickF (by rfl) zT0 ?_ | refine F_lenS (by rfl) ?_ | refine hx_true (by rfl) ?_ | refine hx_seq ?_ | refine hx_region ?_ | refine F_gtr (by rfl) (by rfl) zT6 ?_)
    refine hx_retF (by (try simp only [List.map_cons, List.map_nil]); repeat (first | (apply eL1; · exact zT0) | rfl)) zT5 zT7 ?_
    rw [decide_eq_false (by unfold CVal; omega)]; rfl
  by_cases h3 : cols < 1
  · repeat (first | refine F_mv zT0 rfl ?_ | refine F_yes (by rfl) (by rfl) ?_ | refine F_no (by rfl) (by rfl) ?_ | refine F_nil zT1 ?_ | refine F_lss (by rfl) (by rfl) zT6 ?_ | refine F_pickT (by rfl) zT0 ?_ | refine F_pickF (by rfl) zT0 ?_ | refine F_lenS (by rfl) ?_ | refine hx_true (by rfl) ?_ | refine hx_seq ?_ | refine hx_region ?_ | refine F_gtr (by rfl) (by rfl) zT6 ?_)
    refine hx_retF (by (try simp only [List.map_cons, List.map_nil]); repeat (first | (apply eL1; · exact zT0) | rfl)) zT5 zT7 ?_
    rw [decide_eq_false (by unfold CVal; omega)]; rfl
  by_cases h4 : 8 < cols
  · repeat (first | refine F_mv zT0 rfl ?_ | refine F_yes (by rfl) (by rfl) ?_ | refine F_nil zT1 ?_ | refine F_lss (by rfl) (by rfl) zT6 ?_ | refine F_pickF (by rfl) zT0 ?_ | refine F_lenS (by rfl) ?_ | refine hx_true (by rfl) ?_ | refine hx_seq ?_ | refine hx_region ?_ | refine F_gtr (by rfl) (by rfl) zT6 ?_)
    refine hx_retF (by (try simp only [List.map_cons, List.map_nil]); repeat (first | (apply eL1; · exact zT0) | rfl)) zT5 zT7 ?_
    rw [decide_eq_false (by unfold CVal; omega)]; rfl
  repeat (first | refine F_mv zT0 rfl ?_ | refine F_yes (by rfl) (by rfl) ?_ | refine F_nil zT1 ?_ | refine F_lss (by rfl) (by rfl) zT6 ?_ | refine F_pickF (by rfl) zT0 ?_ | refine F_lenS (by rfl) ?_ | refine hx_false (by rfl) ?_ | refine hx_seq ?_ | refine hx_region ?_ | refine hx_block ?_ | refine hx_skip ?_ | refine F_gtr (by rfl) (by rfl) zT6 ?_)
  refine hx_loopG [0, 7] (fun i : Nat => i ≤ l.length ∧ ∀ k, k < i → 1 ≤ l.getD k 0 ∧ l.getD k 0 ≤ 512)
    (fun i => ⟨[(0, .sl l.length (HL.ints l)), (7, .int .i64 i)], [], 0⟩) (fun i => l.length - i) 0 ⟨by omega, fun k hk => by omega⟩ rfl ?_
  rintro i ⟨hi, hall⟩
  by_cases hil : i < l.length
  · obtain ⟨x, hx⟩ : ∃ x, l.getD i 0 = x := ⟨_, rfl⟩
    have no : ¬ (1 ≤ x ∧ x ≤ 512) → ¬ CVal l rows cols := fun h1 h2 => h1 (hx ▸ h2.2.2.2.2.2 _ (getD_memI l 0 hil))
    by_cases g1 : x < 1
    · repeat (first | refine F_mv zT0 rfl ?_ | refine F_no (by rfl) (by rfl) ?_ | refine F_iaS (by rfl) (by rfl) (by omega) zT1 ?_ | refine F_ldP (by rfl) (by (try simp only [go_sem]); first | omega | decide) (by (try simp (disch := omega) only [go_sem, hx]); try rfl) ?_ | refine F_nil zT1 ?_ | refine F_lss (by rfl) (by rfl) zT6 ?_ | refine F_pickT (by rfl) zT0 ?_ | refine F_lenS (by rfl) ?_ | refine hx_true (by rfl) ?_ | refine hx_seq ?_ | refine hx_region ?_ | refine hx_block ?_ | refine hx_skip ?_)
      refine hx_retF (by (try simp only [List.map_cons, List.map_nil]); repeat (first | (apply eL1; · exact zT0) | rfl)) zT5 zT7 ?_
      rw [decide_eq_false (no (by omega))]; rfl
    · by_cases g2 : 512 < x
      · repeat (first | refine F_mv zT0 rfl ?_ | refine F_yes (by rfl) (by rfl) ?_ | refine F_iaS (by rfl) (by rfl) (by omega) zT1 ?_ | refine F_ldP (by rfl) (by (try simp only [go_sem]); first | omega | decide) (by (try simp (disch := omega) only [go_sem, hx]); try rfl) ?_ | refine F_nil zT1 ?_ | refine F_lss (by rfl) (by rfl) zT6 ?_ | refine F_pickF (by rfl) zT0 ?_ | refine F_lenS (by rfl) ?_ | refine hx_true (by rfl) ?_ | refine hx_seq ?_ | refine hx_region ?_ | refine hx_block ?_ | refine hx_skip ?_ | refine F_gtr (by rfl) (by rfl) zT6 ?_)
        refine hx_retF (by (try simp only [List.map_cons, List.map_nil]); repeat (first | (apply eL1; · exact zT0) | rfl)) zT5 zT7 ?_
        rw [decide_eq_false (no (by omega))]; rfl
      · repeat (first | refine F_mv zT0 rfl ?_ | refine F_yes (by rfl) (by rfl) ?_ | refine F_iaS (by rfl) (by rfl) (by omega) zT1 ?_ | refine F_ldP (by rfl) (by (try simp only [go_sem]); first | omega | decide) (by (try simp (disch := omega) only [go_sem, hx]); try rfl) ?_ | refine F_nil zT1 ?_ | refine F_lss (by rfl) (by rfl) zT6 ?_ | refine F_pickF (by rfl) zT0 ?_ | refine F_add (by rfl) (by rfl) (by (try simp (disch := omega) only [go_sem, Int.reduceAdd, Int.reduceSub, Int.reduceMul, hx]); try rfl) ?_ | refine F_lenS (by rfl) ?_ | refine hx_true (by rfl) ?_ | refine hx_false (by rfl) ?_ | refine hx_seq ?_ | refine hx_region ?_ | refine hx_block ?_ | refine hx_b ?_ | refine hx_skip ?_ | refine F_gtr (by rfl) (by rfl) zT6 ?_)
        exact hx_lG [0, 7] (i + 1) ⟨hil, fun k hk => by
          rcases Nat.lt_or_ge k i with h | h
          · exact hall k h
          · have : k = i := by omega
            subst this; rw [hx]; omega⟩ (by omega) rfl
  · obtain rfl : i = l.length := by omega
    repeat (first | refine F_mv zT0 rfl ?_ | refine F_nil zT1 ?_ | refine F_lss (by rfl) (by rfl) zT6 ?_ | refine F_lenS (by rfl) ?_ | refine hx_exitS (by rfl) ?_ | refine hx_false (by rfl) ?_ | refine hx_seq ?_ | refine hx_region ?_)
    refine hx_retF (by (try simp only [List.map_cons, List.map_nil]); repeat (first | (apply eL1; · exact zT0) | rfl)) zT5 zT7 ?_
    have : CVal l rows cols := ⟨by omega, by omega, by omega, by omega, by omega, fun x hx => by
      obtain ⟨k, hk, rfl⟩ := List.getElem_of_mem hx
      have := hall k hk
      simpa [List.getD_eq_getElem?_getD, hk] using this⟩
    rw [decide_eq_true this]; rfl

theorem ht_total (ls : List Nat) (hl : ls.length ≤ 512) (hb : ∀ n ∈ ls, 0 < n ∧ n ≤ 512) : HT Try.prog 31 [I (nl ls)] (fun r => r = .int .i64 ls.sum) := by
  refine HT.of rfl fc31 (Nat.le_of_ble_eq_true rfl) ?_
  unfold c31
  simp only [I, nl_len, argSlots, Nat.reduceAdd]
  repeat (first | refine F_mv zT0 rfl ?_ | refine F_nil zT1 ?_ | refine hx_seq ?_ | refine hx_region ?_ | refine hx_block ?_)
  refine hx_loopG [0, 3, 4] (fun i : Nat => i ≤ ls.length)
    (fun i => ⟨[(0, .sl ls.length (HL.ints (nl ls))), (3, .int .i64 ((ls.take i).sum : Nat)), (4, .int .i64 i)], [], 0⟩) (fun i => ls.length - i) 0 (by omega) rfl ?_
  intro i hi
  by_cases hil : i < ls.length
  · have hng := nl_getD ls i
    have hnb := hb _ (getD_memI ls 0 hil)
    have hs := sum_take_bd ls hb i hi
    have hs2 := sum_take_succ ls hil
    have hil' : i < (nl ls).length := by rw [nl_len]; exact hil
    obtain ⟨n, hn⟩ : ∃ n, ls.getD i 0 = n := ⟨_, rfl⟩
    rw [hn] at hng hnb hs2
    repeat (first | refine F_mv zT0 rfl ?_ | refine F_iaS (by rfl) (by rfl) (by omega) zT1 ?_ | refine F_ldP (by rfl) (by (try simp only [go_sem]); first | omega | decide) (by (try simp (disch := omega) only [go_sem, hng]); try rfl) ?_ | refine F_nil zT1 ?_ | refine F_lss (by rfl) (by rfl) zT6 ?_ | refine F_add (by rfl) (by rfl) (by (try simp (disch := omega) only [go_sem, Int.reduceAdd, Int.reduceSub, Int.reduceMul, hng]); try rfl) ?_ | refine F_lenS (by rfl) ?_ | refine hx_true (by rfl) ?_ | refine hx_seq ?_ | refine hx_region ?_ | refine hx_block ?_ | refine hx_b ?_ | refine hx_skip ?_)
    exact hx_lG [0, 3, 4] (i + 1) hil (by omega) (by rw [hs2]; rfl)
  · obtain rfl : i = ls.length := by omega
    rw [List.take_length]
    repeat (first | refine F_mv zT0 rfl ?_ | refine F_nil zT1 ?_ | refine F_lss (by rfl) (by rfl) zT6 ?_ | refine F_lenS (by rfl) ?_ | refine hx_exitS (by rfl) ?_ | refine hx_false (by rfl) ?_ | refine hx_seq ?_ | refine hx_region ?_)
    refine hx_retF (by (try simp only [List.map_cons, List.map_nil]); repeat (first | (apply eL1; · exact zT0) | rfl)) zT5 zT7 ?_
    rfl

def Al (A : List (Bool × Bool)) : List Bool := A.map (·.1)
def Bo (A : List (Bool × Bool)) : List Bool := A.map (·.2)
theorem al_len (A : List (Bool × Bool)) : (Al A).length = A.length := by simp [Al]
theorem bo_len (A : List (Bool × Bool)) : (Bo A).length = A.length := by simp [Bo]
theorem al_get (A : List (Bool × Bool)) (i : Nat) : (Al A).getD i false = (A.getD i (false, false)).1 := by
  simp only [Al, List.getD_eq_getElem?_getD, List.getElem?_map]; cases A[i]? <;> rfl
theorem bo_get (A : List (Bool × Bool)) (i : Nat) : (Bo A).getD i false = (A.getD i (false, false)).2 := by
  simp only [Bo, List.getD_eq_getElem?_getD, List.getElem?_map]; cases A[i]? <;> rfl
theorem fill_set (X : List Bool) (k : Nat) (b : Bool) : (X ++ List.replicate (k + 1) false).set X.length b = (X ++ [b]) ++ List.replicate k false := by
  rw [List.set_append_right _ _ (Nat.le_refl _), Nat.sub_self, List.replicate_succ, List.set_cons_zero, List.append_assoc]; rfl
theorem fill_get (X : List Bool) (k : Nat) : (X ++ List.replicate k false).getD X.length false = false := by
  rw [List.getD_eq_getElem?_getD, List.getElem?_append_right (Nat.le_refl _), Nat.sub_self]
  cases k <;> simp
theorem brk_succ (ls : List Nat) {i n : Nat} (hil : i < ls.length) (hn : ls.getD i 0 = n) : brk (ls.take (i + 1)) = brk (ls.take i) ++ blk n := by
  rw [List.take_succ_eq_append_getElem hil]
  have : ls[i] = n := by rw [← hn]; simp [List.getD_eq_getElem?_getD, hil]
  simp [brk, this]
theorem brk_last (ls : List Nat) (hpos : ∀ n ∈ ls, 0 < n) : ∀ i, i ≤ ls.length → (brk (ls.take i)).getD (ls.take i).sum (false, false) = (true, true)
  | 0, _ => rfl
  | i + 1, hi => by
    obtain ⟨n, hn⟩ : ∃ n, ls.getD i 0 = n := ⟨_, rfl⟩
    have hn0 := hpos n (hn ▸ getD_memI ls 0 hi)
    have hs := sum_take_succ ls hi
    have hbl := brk_len (ls.take i)
    rw [hn] at hs
    rw [brk_succ ls hi hn, hs, List.getD_eq_getElem?_getD, List.getElem?_append_right (by omega), hbl, show (ls.take i).sum + n - ((ls.take i).sum + 1) = n - 1 by omega, blk_get (by omega)]
    simp; omega

set_option maxHeartbeats 8000000 in
theorem ht_allowed (ls : List Nat) (hl : ls.length ≤ 512) (hb : ∀ n ∈ ls, 0 < n ∧ n ≤ 512) : HT Try.prog 28 [I (nl ls)] (fun r => r = .osl 1 (brk ls).length (HL.bools (Al (brk ls)))) := by
  have htot := ht_total ls hl hb
  simp only [I, nl_len] at htot
  refine HT.of rfl fc28 (Nat.le_of_ble_eq_true rfl) ?_
  unfold c28
  simp only [I, nl_len, argSlots, Nat.reduceAdd]
  have hT := sum_take_bd ls hb ls.length (Nat.le_refl _)
  rw [List.take_length] at hT
  obtain ⟨T, hTT⟩ : ∃ T, ls.sum = T := ⟨_, rfl⟩
  have hbl := brk_len ls
  rw [hTT] at htot hT hbl
  have h1 : (T : Int) + 1 = ((T + 1 : Nat) : Int) := by omega
  have hrl : (List.replicate (T + 1) false).length = T + 1 := by simp
  repeat (first | refine F_mv zT0 rfl ?_ | refine F_nil zT1 ?_ | refine hx_seq ?_ | refine hx_region ?_ | refine F_mvnil rfl (by rfl) zT1 ?_)
  refine F_call (by (try simp only [List.map_cons, List.map_nil]); repeat (first | (apply eL1; · exact zT0) | rfl)) (by simp (disch := omega) only [thawL, HV.thaw, allIds, aget, nget, if_true, if_false, reduceIte, Nat.reduceEqDiff, stripL, HV.strip, win_intsE, win_boolsE, Nat.mul_one, List.cons_append, List.nil_append, List.append_nil, I, Bl, T3, List.getD_cons_zero, List.getD_cons_succ, HL.ints_strip, HL.bools_strip, trip_strip]; try rfl) (htot) ?_
  rintro _ rfl
  refine ⟨(by simp only [refFreeL, HV.refFree, noRdL, HV.noRd, HL.ints_noRd, HL.bools_noRd, trip_noRd, Bool.or_true, Bool.true_or, Bool.or_false, Bool.false_or, Bool.and_true, Bool.true_and, Bool.and_self, List.isEmpty_nil, beq_self_eq_true, List.cons_append, List.nil_append]), _, _, _, _, _, zT4, (by decide), (by simp only [upF, upS]; try rfl), ?_⟩
  repeat (first | refine F_mv zT0 rfl ?_ | refine F_iaR (by rfl) (by rfl) (by omega) zT1 ?_ | refine F_nil zT1 ?_ | refine F_add (by rfl) (by rfl) (by (try simp (disch := omega) only [go_sem, Int.reduceAdd, Int.reduceSub, Int.reduceMul, h1]); try rfl) ?_ | refine hx_seq ?_ | refine hx_region ?_ | refine hx_block ?_ | refine F_st (by rfl) zT0 (by (try simp only [go_sem]); try rfl) (by first | rfl | exact HL.ints_flat _ | exact HL.bools_flat _) (by rfl) (by decide) (by first | exact eO rfl | exact eW rfl) (by (try simp only [go_sem]); try rfl) (by (try simp only [go_sem]); first | omega | decide) (by (try simp (disch := omega) only [go_sem, h1]); try rfl) (by (try simp only [go_sem]); try rfl) ?_ | refine F_mksl zT1 (by rfl) (by omega) (by (try simp only [go_sem]); try rfl) (by (try simp only [go_sem]); try rfl) ?_)
  refine hx_loopG [0, 3, 4, 5] (fun s : Nat × List Bool => s.1 ≤ ls.length ∧ s.2.length = T + 1 ∧ s.2 = Al (brk (ls.take s.1)) ++ List.replicate (T - (ls.take s.1).sum) false)
    (fun s => ⟨[(0, .sl ls.length (HL.ints (nl ls))), (3, .ref 0 [] 1 0 (T + 1)), (4, .int .i64 ((ls.take s.1).sum : Nat)), (5, .int .i64 s.1)], [(0, .osl 1 (T + 1) (HL.bools s.2))], 1⟩)
    (fun s => ls.length - s.1) (0, (List.replicate (T + 1) false).set 0 true) ⟨by simp, by simp, by simp [Al, brk, List.replicate_succ]⟩ rfl ?_
  rintro ⟨i, O⟩ ⟨hi, hO, hOe⟩
  simp only at hi hO hOe ⊢
  by_cases hil : i < ls.length
  · have hng := nl_getD ls i
    have hnb := hb _ (getD_memI ls 0 hil)
    have hs := sum_take_bd ls hb i hi
    have hs2 := sum_take_succ ls hil
    have hs3 := sum_take_le ls (i + 1)
    have hil' : i < (nl ls).length := by rw [nl_len]; exact hil
    obtain ⟨n, hn⟩ : ∃ n, ls.getD i 0 = n := ⟨_, rfl⟩
    obtain ⟨s, hss⟩ : ∃ s, (ls.take i).sum = s := ⟨_, rfl⟩
    rw [hn] at hng hnb hs2
    rw [hss] at hs hs2 hOe
    rw [hs2, hTT] at hs3
    have hbi := brk_len (ls.take i)
    rw [hss] at hbi
    have hXl := al_len (brk (ls.take i))
    rw [hbi] at hXl
    have hlast := brk_last ls (fun x hx => (hb x hx).1) i hi
    rw [hss] at hlast
    have hblk := brk_succ ls hil hn
    repeat (first | refine F_mv zT0 rfl ?_ | refine F_nil zT1 ?_ | refine F_lss (by rfl) (by rfl) zT6 ?_ | refine F_lenS (by rfl) ?_ | refine hx_true (by rfl) ?_ | refine hx_seq ?_ | refine hx_region ?_ | refine hx_block ?_ | refine hx_skip ?_)
    refine hx_loopG [0, 3, 4, 5, 6] (fun t : Nat × List Bool => t.1 ≤ n + 1 ∧ t.2.length = T + 1 ∧ t.2 = (Al (brk (ls.take i)) ++ (Al (blk n)).take (t.1 - 1)) ++ List.replicate (T - s - (t.1 - 1)) false)
      (fun t => ⟨[(0, .sl ls.length (HL.ints (nl ls))), (3, .ref 0 [] 1 0 (T + 1)), (4, .int .i64 s), (5, .int .i64 i), (6, .int .i64 (s + t.1 : Nat))], [(0, .osl 1 (T + 1) (HL.bools t.2))], 1⟩)
      (fun t => n + 1 - t.1) (0, O) ⟨by simp, hO, by simpa using hOe⟩ (by simp only [hss]; rfl) ?_
    rintro ⟨j, U⟩ ⟨hj, hU, hUe⟩
    simp only at hj hU hUe ⊢
    by_cases hjn : j ≤ n
    · have hblen := blk_len n
      have hYl : (Al (blk n)).length = n := by rw [al_len, hblen]
      by_cases hj0 : j = 0
      · subst hj0
        have hu : U.getD (s + 0) false = true := by
          rw [Nat.add_zero, hUe, List.getD_eq_getElem?_getD, List.getElem?_append_left (by simp; omega), List.getElem?_append_left (by omega), ← List.getD_eq_getElem?_getD, al_get, hlast]
        have hset : U.set (s + 0) true = U := by
          rw [Nat.add_zero] at hu ⊢
          apply List.ext_getElem?
          intro k
          rw [List.getElem?_set]
          split
          · rename_i h; subst h
            rw [if_pos (by omega)]
            rw [List.getD_eq_getElem?_getD] at hu
            cases hk : U[s]? with
            | none => rw [hk] at hu; cases hu
            | some v => rw [hk] at hu; simp at hu; rw [hu]
          · rfl
        rw [Nat.add_zero] at hu hset ⊢
        repeat (first | refine F_mv zT0 rfl ?_ | refine F_no (by rfl) (by rfl) ?_ | refine F_iaS (by rfl) (by rfl) (by omega) zT1 ?_ | refine F_iaR (by rfl) (by rfl) (by omega) zT1 ?_ | refine F_ldP (by rfl) (by (try simp only [go_sem]); first | omega | decide) (by (try simp (disch := omega) only [go_sem, hng, hu]); try rfl) ?_ | refine F_ldR (by rfl) (by first | exact eO rfl | exact eW rfl) (by (try simp (disch := omega) only [go_sem, reduceIte, Nat.reduceEqDiff, Nat.reduceAdd, Nat.reduceMul, hng, hu]); try rfl) (by (try simp only [go_sem]); first | omega | decide) (by (try simp (disch := omega) only [go_sem, hng, hu]); try rfl) zT0 ?_ | refine F_nil zT1 ?_ | refine F_eql (by rfl) (by rfl) (by first | exact eqT (by omega) | exact eqF (by omega) | rfl) ?_ | refine F_pickT (by rfl) zT0 ?_ | refine F_add (by rfl) (by rfl) (by (try simp (disch := omega) only [go_sem, Int.reduceAdd, Int.reduceSub, Int.reduceMul, hng, hu]); try rfl) ?_ | refine hx_true (by rfl) ?_ | refine hx_seq ?_ | refine hx_region ?_ | refine hx_block ?_ | refine hx_b ?_ | refine hx_skip ?_ | refine F_noU (by rfl) (by rfl) ?_ | refine F_leq (by rfl) (by rfl) (by first | exact leT (by omega) | exact leF (by omega) | rfl) ?_ | refine F_st (by rfl) zT0 (by (try simp only [go_sem]); try rfl) (by first | rfl | exact HL.ints_flat _ | exact HL.bools_flat _) (by rfl) (by decide) (by first | exact eO rfl | exact eW rfl) (by (try simp only [go_sem]); try rfl) (by (try simp only [go_sem]); first | omega | decide) (by (try simp (disch := omega) only [go_sem, hng, hu]); try rfl) (by (try simp only [go_sem]); try rfl) ?_)
        exact hx_lG [0, 3, 4, 5, 6] (1, U.set s true) ⟨by simp only; omega, by rw [hset]; exact hU, by rw [hset]; simpa using hUe⟩ (by simp only; omega) rfl
      · obtain ⟨k, hk⟩ : ∃ k, T - s - (j - 1) = k + 1 := ⟨T - s - (j - 1) - 1, by omega⟩
        obtain ⟨X, hX⟩ : ∃ X, Al (brk (ls.take i)) ++ (Al (blk n)).take (j - 1) = X := ⟨_, rfl⟩
        have hXl2 : X.length = s + j := by rw [← hX, List.length_append, List.length_take]; omega
        rw [hX, hk] at hUe
        have hu : U.getD (s + j) false = false := by rw [hUe, ← hXl2]; exact fill_get _ _
        have hnx : ∀ b, b = (decide (j = n) || (decide (2 ≤ j) && decide (2 ≤ n - j))) → (j + 1) ≤ n + 1 ∧ (U.set (s + j) b).length = T + 1 ∧ U.set (s + j) b = (Al (brk (ls.take i)) ++ (Al (blk n)).take (j + 1 - 1)) ++ List.replicate (T - s - (j + 1 - 1)) false := by
          intro b hb'
          refine ⟨by omega, by rw [List.length_set]; exact hU, ?_⟩
          rw [hUe, ← hXl2, fill_set, show T - s - (j + 1 - 1) = k by omega]
          congr 1
          rw [← hX, List.append_assoc]
          congr 1
          rw [show j + 1 - 1 = (j - 1) + 1 by omega, List.take_succ_eq_append_getElem (by omega)]
          congr 2
          have := blk_get (n := n) (i := j - 1) (by omega)
          rw [List.getElem?_eq_getElem (by omega)] at this
          have h2 := Option.some.inj this
          simp only [Al, List.getElem_map, h2]
          rw [hb', show j - 1 + 1 = j by omega]
        by_cases g1 : j = n
        · subst g1
          have := hnx true (by simp)
          repeat (first | refine F_mv zT0 rfl ?_ | refine F_yes (by rfl) (by rfl) ?_ | refine F_no (by rfl) (by rfl) ?_ | refine F_iaS (by rfl) (by rfl) (by omega) zT1 ?_ | refine F_iaR (by rfl) (by rfl) (by omega) zT1 ?_ | refine F_ldP (by rfl) (by (try simp only [go_sem]); first | omega | decide) (by (try simp (disch := omega) only [go_sem, hng, hu]); try rfl) ?_ | refine F_ldR (by rfl) (by first | exact eO rfl | exact eW rfl) (by (try simp (disch := omega) only [go_sem, reduceIte, Nat.reduceEqDiff, Nat.reduceAdd, Nat.reduceMul, hng, hu]); try rfl) (by (try simp only [go_sem]); first | omega | decide) (by (try simp (disch := omega) only [go_sem, hng, hu]); try rfl) zT0 ?_ | refine F_nil zT1 ?_ | refine F_eql (by rfl) (by rfl) (by first | exact eqT (by omega) | exact eqF (by omega) | rfl) ?_ | refine F_pickT (by rfl) zT0 ?_ | refine F_pickF (by rfl) zT0 ?_ | refine F_add (by rfl) (by rfl) (by (try simp (disch := omega) only [go_sem, Int.reduceAdd, Int.reduceSub, Int.reduceMul, hng, hu]); try rfl) ?_ | refine hx_true (by rfl) ?_ | refine hx_seq ?_ | refine hx_region ?_ | refine hx_block ?_ | refine hx_b ?_ | refine hx_skip ?_ | refine F_noU (by rfl) (by rfl) ?_ | refine F_leq (by rfl) (by rfl) (by first | exact leT (by omega) | exact leF (by omega) | rfl) ?_ | refine F_st (by rfl) zT0 (by (try simp only [go_sem]); try rfl) (by first | rfl | exact HL.ints_flat _ | exact HL.bools_flat _) (by rfl) (by decide) (by first | exact eO rfl | exact eW rfl) (by (try simp only [go_sem]); try rfl) (by (try simp only [go_sem]); first | omega | decide) (by (try simp (disch := omega) only [go_sem, hng, hu]); try rfl) (by (try simp only [go_sem]); try rfl) ?_)
          exact hx_lG [0, 3, 4, 5, 6] (j + 1, U.set (s + j) true) this (by simp only; omega) rfl
        · by_cases g2 : 2 ≤ j
          · by_cases g3 : 2 ≤ n - j
            · have := hnx true (by simp [g1]; omega)
              repeat (first | refine F_mv zT0 rfl ?_ | refine F_yes (by rfl) (by rfl) ?_ | refine F_iaS (by rfl) (by rfl) (by omega) zT1 ?_ | refine F_iaR (by rfl) (by rfl) (by omega) zT1 ?_ | refine F_ldP (by rfl) (by (try simp only [go_sem]); first | omega | decide) (by (try simp (disch := omega) only [go_sem, hng, hu]); try rfl) ?_ | refine F_ldR (by rfl) (by first | exact eO rfl | exact eW rfl) (by (try simp (disch := omega) only [go_sem, reduceIte, Nat.reduceEqDiff, Nat.reduceAdd, Nat.reduceMul, hng, hu]); try rfl) (by (try simp only [go_sem]); first | omega | decide) (by (try simp (disch := omega) only [go_sem, hng, hu]); try rfl) zT0 ?_ | refine F_nil zT1 ?_ | refine F_eql (by rfl) (by rfl) (by first | exact eqT (by omega) | exact eqF (by omega) | rfl) ?_ | refine F_pickT (by rfl) zT0 ?_ | refine F_pickF (by rfl) zT0 ?_ | refine F_add (by rfl) (by rfl) (by (try simp (disch := omega) only [go_sem, Int.reduceAdd, Int.reduceSub, Int.reduceMul, hng, hu]); try rfl) ?_ | refine hx_true (by rfl) ?_ | refine hx_seq ?_ | refine hx_region ?_ | refine hx_block ?_ | refine hx_b ?_ | refine hx_skip ?_ | refine F_sub (by rfl) (by rfl) (by (try simp (disch := omega) only [go_sem, Int.reduceAdd, Int.reduceSub, Int.reduceMul, hng, hu]); try rfl) ?_ | refine F_leq (by rfl) (by rfl) (by first | exact leT (by omega) | exact leF (by omega) | rfl) ?_ | refine F_geq (by rfl) (by rfl) (by first | exact leT (by omega) | exact leF (by omega) | rfl) ?_ | refine F_st (by rfl) zT0 (by (try simp only [go_sem]); try rfl) (by first | rfl | exact HL.ints_flat _ | exact HL.bools_flat _) (by rfl) (by decide) (by first | exact eO rfl | exact eW rfl) (by (try simp only [go_sem]); try rfl) (by (try simp only [go_sem]); first | omega | decide) (by (try simp (disch := omega) only [go_sem, hng, hu]); try rfl) (by (try simp only [go_sem]); try rfl) ?_)
              exact hx_lG [0, 3, 4, 5, 6] (j + 1, U.set (s + j) true) this (by simp only; omega) rfl
            · have := hnx false (by simp [g1]; omega)
              repeat (first | refine F_mv zT0 rfl ?_ | refine F_yes (by rfl) (by rfl) ?_ | refine F_iaS (by rfl) (by rfl) (by omega) zT1 ?_ | refine F_iaR (by rfl) (by rfl) (by omega) zT1 ?_ | refine F_ldP (by rfl) (by (try simp only [go_sem]); first | omega | decide) (by (try simp (disch := omega) only [go_sem, hng, hu]); try rfl) ?_ | refine F_ldR (by rfl) (by first | exact eO rfl | exact eW rfl) (by (try simp (disch := omega) only [go_sem, reduceIte, Nat.reduceEqDiff, Nat.reduceAdd, Nat.reduceMul, hng, hu]); try rfl) (by (try simp only [go_sem]); first | omega | decide) (by (try simp (disch := omega) only [go_sem, hng, hu]); try rfl) zT0 ?_ | refine F_nil zT1 ?_ | refine F_eql (by rfl) (by rfl) (by first | exact eqT (by omega) | exact eqF (by omega) | rfl) ?_ | refine F_pickT (by rfl) zT0 ?_ | refine F_pickF (by rfl) zT0 ?_ | refine F_add (by rfl) (by rfl) (by (try simp (disch := omega) only [go_sem, Int.reduceAdd, Int.reduceSub, Int.reduceMul, hng, hu]); try rfl) ?_ | refine hx_true (by rfl) ?_ | refine hx_seq ?_ | refine hx_region ?_ | refine hx_block ?_ | refine hx_b ?_ | refine hx_skip ?_ | refine F_sub (by rfl) (by rfl) (by (try simp (disch := omega) only [go_sem, Int.reduceAdd, Int.reduceSub, Int.reduceMul, hng, hu]); try rfl) ?_ | refine F_leq (by rfl) (by rfl) (by first | exact leT (by omega) | exact leF (by omega) | rfl) ?_ | refine F_geq (by rfl) (by rfl) (by first | exact leT (by omega) | exact leF (by omega) | rfl) ?_ | refine F_st (by rfl) zT0 (by (try simp only [go_sem]); try rfl) (by first | rfl | exact HL.ints_flat _ | exact HL.bools_flat _) (by rfl) (by decide) (by first | exact eO rfl | exact eW rfl) (by (try simp only [go_sem]); try rfl) (by (try simp only [go_sem]); first | omega | decide) (by (try simp (disch := omega) only [go_sem, hng, hu]); try rfl) (by (try simp only [go_sem]); try rfl) ?_)
              exact hx_lG [0, 3, 4, 5, 6] (j + 1, U.set (s + j) false) this (by simp only; omega) rfl
          · have := hnx false (by simp [g1]; omega)
            repeat (first | refine F_mv zT0 rfl ?_ | refine F_yes (by rfl) (by rfl) ?_ | refine F_no (by rfl) (by rfl) ?_ | refine F_iaS (by rfl) (by rfl) (by omega) zT1 ?_ | refine F_iaR (by rfl) (by rfl) (by omega) zT1 ?_ | refine F_ldP (by rfl) (by (try simp only [go_sem]); first | omega | decide) (by (try simp (disch := omega) only [go_sem, hng, hu]); try rfl) ?_ | refine F_ldR (by rfl) (by first | exact eO rfl | exact eW rfl) (by (try simp (disch := omega) only [go_sem, reduceIte, Nat.reduceEqDiff, Nat.reduceAdd, Nat.reduceMul, hng, hu]); try rfl) (by (try simp only [go_sem]); first | omega | decide) (by (try simp (disch := omega) only [go_sem, hng, hu]); try rfl) zT0 ?_ | refine F_nil zT1 ?_ | refine F_eql (by rfl) (by rfl) (by first | exact eqT (by omega) | exact eqF (by omega) | rfl) ?_ | refine F_pickF (by rfl) zT0 ?_ | refine F_add (by rfl) (by rfl) (by (try simp (disch := omega) only [go_sem, Int.reduceAdd, Int.reduceSub, Int.reduceMul, hng, hu]); try rfl) ?_ | refine hx_true (by rfl) ?_ | refine hx_seq ?_ | refine hx_region ?_ | refine hx_block ?_ | refine hx_b ?_ | refine hx_skip ?_ | refine F_sub (by rfl) (by rfl) (by (try simp (disch := omega) only [go_sem, Int.reduceAdd, Int.reduceSub, Int.reduceMul, hng, hu]); try rfl) ?_ | refine F_leq (by rfl) (by rfl) (by first | exact leT (by omega) | exact leF (by omega) | rfl) ?_ | refine F_geq (by rfl) (by rfl) (by first | exact leT (by omega) | exact leF (by omega) | rfl) ?_ | refine F_st (by rfl) zT0 (by (try simp only [go_sem]); try rfl) (by first | rfl | exact HL.ints_flat _ | exact HL.bools_flat _) (by rfl) (by decide) (by first | exact eO rfl | exact eW rfl) (by (try simp only [go_sem]); try rfl) (by (try simp only [go_sem]); first | omega | decide) (by (try simp (disch := omega) only [go_sem, hng, hu]); try rfl) (by (try simp only [go_sem]); try rfl) ?_)
            exact hx_lG [0, 3, 4, 5, 6] (j + 1, U.set (s + j) false) this (by simp only; omega) rfl
    · obtain rfl : j = n + 1 := by omega
      have hYl : (Al (blk n)).length = n := by rw [al_len, blk_len]
      rw [Nat.add_sub_cancel, List.take_of_length_le (l := Al (blk n)) (by omega)] at hUe
      repeat (first | refine F_mv zT0 rfl ?_ | refine F_iaS (by rfl) (by rfl) (by omega) zT1 ?_ | refine F_ldP (by rfl) (by (try simp only [go_sem]); first | omega | decide) (by (try simp (disch := omega) only [go_sem, hng]); try rfl) ?_ | refine F_nil zT1 ?_ | refine F_add (by rfl) (by rfl) (by (try simp (disch := omega) only [go_sem, Int.reduceAdd, Int.reduceSub, Int.reduceMul, hng]); try rfl) ?_ | refine hx_exitS (by rfl) ?_ | refine hx_false (by rfl) ?_ | refine hx_seq ?_ | refine hx_region ?_ | refine hx_b ?_ | refine F_leq (by rfl) (by rfl) (by first | exact leT (by omega) | exact leF (by omega) | rfl) ?_)
      exact hx_lG [0, 3, 4, 5] (i + 1, U) ⟨hil, hU, by
        show U = _
        rw [hUe, hblk, hs2]
        simp only [Al, List.map_append]
        rw [show T - s - n = T - (s + n) by omega]⟩ (by simp only; omega) (by simp only [hs2]; rfl)
  · obtain rfl : i = ls.length := by omega
    rw [List.take_length, hTT, Nat.sub_self] at hOe
    simp only [List.replicate_zero, List.append_nil] at hOe
    rw [hbl]
    repeat (first | refine F_mv zT0 rfl ?_ | refine F_nil zT1 ?_ | refine F_lss (by rfl) (by rfl) zT6 ?_ | refine F_lenS (by rfl) ?_ | refine hx_exitS (by rfl) ?_ | refine hx_false (by rfl) ?_ | refine hx_seq ?_ | refine hx_region ?_)
    refine hx_retF (by (try simp only [List.map_cons, List.map_nil]); repeat (first | (apply eL1; · exact zT0) | rfl)) zT5 zT7 ?_
    rw [hOe]; rfl

set_option maxHeartbeats 8000000 in
theorem ht_borders (ls : List Nat) (hl : ls.length ≤ 512) (hb : ∀ n ∈ ls, 0 < n ∧ n ≤ 512) : HT Try.prog 29 [I (nl ls)] (fun r => r = .osl 1 (brk ls).length (HL.bools (Bo (brk ls)))) := by
  have htot := ht_total ls hl hb
  simp only [I, nl_len] at htot
  refine HT.of rfl fc29 (Nat.le_of_ble_eq_true rfl) ?_
  unfold c29
  simp only [I, nl_len, argSlots, Nat.reduceAdd]
  have hT := sum_take_bd ls hb ls.length (Nat.le_refl _)
  rw [List.take_length] at hT
  obtain ⟨T, hTT⟩ : ∃ T, ls.sum = T := ⟨_, rfl⟩
  have hbl := brk_len ls
  rw [hTT] at htot hT hbl
  have h1 : (T : Int) + 1 = ((T + 1 : Nat) : Int) := by omega
  have hrl : (List.replicate (T + 1) false).length = T + 1 := by simp
  repeat (first | refine F_mv zT0 rfl ?_ | refine F_nil zT1 ?_ | refine hx_seq ?_ | refine hx_region ?_ | refine F_mvnil rfl (by rfl) zT1 ?_)
  refine F_call (by (try simp only [List.map_cons, List.map_nil]); repeat (first | (apply eL1; · exact zT0) | rfl)) (by simp (disch := omega) only [thawL, HV.thaw, allIds, aget, nget, if_true, if_false, reduceIte, Nat.reduceEqDiff, stripL, HV.strip, win_intsE, win_boolsE, Nat.mul_one, List.cons_append, List.nil_append, List.append_nil, I, Bl, T3, List.getD_cons_zero, List.getD_cons_succ, HL.ints_strip, HL.bools_strip, trip_strip]; try rfl) (htot) ?_
  rintro _ rfl
  refine ⟨(by simp only [refFreeL, HV.refFree, noRdL, HV.noRd, HL.ints_noRd, HL.bools_noRd, trip_noRd, Bool.or_true, Bool.true_or, Bool.or_false, Bool.false_or, Bool.and_true, Bool.true_and, Bool.and_self, List.isEmpty_nil, beq_self_eq_true, List.cons_append, List.nil_append]), _, _, _, _, _, zT4, (by decide), (by simp only [upF, upS]; try rfl), ?_⟩
  repeat (first | refine F_mv zT0 rfl ?_ | refine F_iaR (by rfl) (by rfl) (by omega) zT1 ?_ | refine F_nil zT1 ?_ | refine F_add (by rfl) (by rfl) (by (try simp (disch := omega) only [go_sem, Int.reduceAdd, Int.reduceSub, Int.reduceMul, h1]); try rfl) ?_ | refine hx_seq ?_ | refine hx_region ?_ | refine hx_block ?_ | refine F_st (by rfl) zT0 (by (try simp only [go_sem]); try rfl) (by first | rfl | exact HL.ints_flat _ | exact HL.bools_flat _) (by rfl) (by decide) (by first | exact eO rfl | exact eW rfl) (by (try simp only [go_sem]); try rfl) (by (try simp only [go_sem]); first | omega | decide) (by (try simp (disch := omega) only [go_sem, h1]); try rfl) (by (try simp only [go_sem]); try rfl) ?_ | refine F_mksl zT1 (by rfl) (by omega) (by (try simp only [go_sem]); try rfl) (by (try simp only [go_sem]); try rfl) ?_)
  refine hx_loopG [0, 3, 4, 5] (fun s : Nat × List Bool => s.1 ≤ ls.length ∧ s.2.length = T + 1 ∧ s.2 = Bo (brk (ls.take s.1)) ++ List.replicate (T - (ls.take s.1).sum) false)
    (fun s => ⟨[(0, .sl ls.length (HL.ints (nl ls))), (3, .ref 0 [] 1 0 (T + 1)), (4, .int .i64 ((ls.take s.1).sum : Nat)), (5, .int .i64 s.1)], [(0, .osl 1 (T + 1) (HL.bools s.2))], 1⟩)
    (fun s => ls.length - s.1) (0, (List.replicate (T + 1) false).set 0 true) ⟨by simp, by simp, by simp [Bo, brk, List.replicate_succ]⟩ rfl ?_
  rintro ⟨i, O⟩ ⟨hi, hO, hOe⟩
  simp only at hi hO hOe ⊢
  by_cases hil : i < ls.length
  · have hng := nl_getD ls i
    have hnb := hb _ (getD_memI ls 0 hil)
    have hs := sum_take_bd ls hb i hi
    have hs2 := sum_take_succ ls hil
    have hs3 := sum_take_le ls (i + 1)
    have hil' : i < (nl ls).length := by rw [nl_len]; exact hil
    obtain ⟨n, hn⟩ : ∃ n, ls.getD i 0 = n := ⟨_, rfl⟩
    obtain ⟨s, hss⟩ : ∃ s, (ls.take i).sum = s := ⟨_, rfl⟩
    rw [hn] at hng hnb hs2
    rw [hss] at hs hs2 hOe
    rw [hs2, hTT] at hs3
    have hbi := brk_len (ls.take i)
    rw [hss] at hbi
    have hXl := bo_len (brk (ls.take i))
    rw [hbi] at hXl
    have hblk := brk_succ ls hil hn
    have hcast : (s : Int) + (n : Int) = ((s + n : Nat) : Int) := by omega
    have hnx : (O.set (s + n) true).length = T + 1 ∧ O.set (s + n) true = Bo (brk (ls.take (i + 1))) ++ List.replicate (T - (s + n)) false := by
      refine ⟨by rw [List.length_set]; exact hO, ?_⟩
      have e1 : Bo (blk n) = List.replicate (n - 1) false ++ [true] := by
        apply List.ext_getElem?
        intro k
        simp only [Bo, List.getElem?_map]
        by_cases hk : k < n
        · rw [blk_get hk]
          by_cases hk2 : k = n - 1
          · subst hk2; rw [List.getElem?_append_right (by simp)]; simp; omega
          · rw [List.getElem?_append_left (by simp; omega), List.getElem?_replicate, if_pos (by omega)]; simp; omega
        · rw [List.getElem?_eq_none (by rw [blk_len]; omega), List.getElem?_eq_none (by simp; omega)]; rfl
      have e2 : List.replicate (T - s) false = List.replicate (n - 1) false ++ List.replicate (T - (s + n) + 1) false := by rw [List.replicate_append_replicate]; congr 1; omega
      have e3 : (Bo (brk (ls.take i)) ++ List.replicate (n - 1) false).length = s + n := by simp [bo_len, hbi]; omega
      rw [hOe, e2, ← List.append_assoc, ← e3, fill_set, e3, hblk]
      simp only [Bo, List.map_append] at e1 ⊢
      rw [e1]
      simp [List.append_assoc]
    rw [hss]
    repeat (first | refine F_mv zT0 rfl ?_ | refine F_iaS (by rfl) (by rfl) (by omega) zT1 ?_ | refine F_iaR (by rfl) (by rfl) (by omega) zT1 ?_ | refine F_ldP (by rfl) (by (try simp only [go_sem]); first | omega | decide) (by (try simp (disch := omega) only [go_sem, hng, hcast]); try rfl) ?_ | refine F_nil zT1 ?_ | refine F_lss (by rfl) (by rfl) zT6 ?_ | refine F_add (by rfl) (by rfl) (by (try simp (disch := omega) only [go_sem, Int.reduceAdd, Int.reduceSub, Int.reduceMul, hng, hcast]); try rfl) ?_ | refine F_lenS (by rfl) ?_ | refine hx_true (by rfl) ?_ | refine hx_seq ?_ | refine hx_region ?_ | refine hx_block ?_ | refine hx_b ?_ | refine hx_skip ?_ | refine F_st (by rfl) zT0 (by (try simp only [go_sem]); try rfl) (by first | rfl | exact HL.ints_flat _ | exact HL.bools_flat _) (by rfl) (by decide) (by first | exact eO rfl | exact eW rfl) (by (try simp only [go_sem]); try rfl) (by (try simp only [go_sem]); first | omega | decide) (by (try simp (disch := omega) only [go_sem, hng, hcast]); try rfl) (by (try simp only [go_sem]); try rfl) ?_)
    exact hx_lG [0, 3, 4, 5] (i + 1, O.set (s + n) true) ⟨hil, hnx.1, by rw [hs2]; exact hnx.2⟩ (by simp only; omega) (by simp only [hs2]; rfl)
  · obtain rfl : i = ls.length := by omega
    rw [List.take_length, hTT, Nat.sub_self] at hOe
    simp only [List.replicate_zero, List.append_nil] at hOe
    rw [hbl]
    repeat (first | refine F_mv zT0 rfl ?_ | refine F_nil zT1 ?_ | refine F_lss (by rfl) (by rfl) zT6 ?_ | refine F_lenS (by rfl) ?_ | refine hx_exitS (by rfl) ?_ | refine hx_false (by rfl) ?_ | refine hx_seq ?_ | refine hx_region ?_)
    refine hx_retF (by (try simp only [List.map_cons, List.map_nil]); repeat (first | (apply eL1; · exact zT0) | rfl)) zT5 zT7 ?_
    rw [hOe]; rfl

set_option maxHeartbeats 4000000 in
theorem ht_column (A : List (Bool × Bool)) (p h : Nat) (hA : A.length ≤ 300000) (hp : p < A.length) (hh : h ≤ 100000) :
    HT Try.prog 30 [.sl A.length (HL.bools (Al A)), .sl A.length (HL.bools (Bo A)), .int .i64 p, .int .i64 h] (fun r => r = .int .i64 (optI (down A p (min (A.length - 1) (p + h))))) := by
  refine HT.of rfl fc30 (Nat.le_of_ble_eq_true rfl) ?_
  unfold c30
  simp only [argSlots, Nat.reduceAdd]
  have hal := al_len A
  have hbo := bo_len A
  obtain ⟨top, htop⟩ : ∃ t, min (A.length - 1) (p + h) = t := ⟨_, rfl⟩
  rw [htop]
  repeat (first | refine F_mv zT0 rfl ?_ | refine F_nil zT1 ?_ | refine F_add (by rfl) (by rfl) zT11 ?_ | refine hx_seq ?_ | refine hx_region ?_ | refine hx_block ?_)
  refine hx_loopG [0, 1, 2, 3, 9, 10] (fun q : Nat => p ≤ q ∧ q ≤ top)
    (fun q => ⟨[(0, .sl A.length (HL.bools (Al A))), (1, .sl A.length (HL.bools (Bo A))), (2, .int .i64 p), (3, .int .i64 h), (9, .int .i64 (optI (down A p q))), (10, .int .i64 ((q + 1 : Nat) : Int))], [], 0⟩) (fun q => top - q) p ⟨Nat.le_refl _, by omega⟩ (by simp only [down_none (Nat.le_refl p), optI]; rfl) ?_
  rintro q ⟨hpq, hq⟩
  by_cases hqt : q < top
  · have g1 := al_get A (q + 1)
    have g2 := bo_get A p
    have hdq : down A p (q + 1) = if okAt A p (q + 1) then some (q + 1) else down A p q := by
      rw [down, if_neg (by omega)]
    have stop : okAt A p (q + 1) = true → optI (down A p (q + 1)) = ((q + 1 : Nat) : Int) := fun e => by rw [hdq, if_pos e]; rfl
    have go_on : okAt A p (q + 1) = false → down A p (q + 1) = down A p q := fun e => by rw [hdq, e]; rfl
    cases h1 : (A.getD (q + 1) (false, false)).1 with
    | false =>
      rw [h1] at g1
      have := go_on (by unfold okAt; rw [h1]; rfl)
      repeat (first | refine F_mv zT0 rfl ?_ | refine F_yes (by rfl) (by rfl) ?_ | refine F_no (by rfl) (by rfl) ?_ | refine F_iaS (by rfl) (by rfl) (by omega) zT1 ?_ | refine F_ldP (by rfl) (by (try simp only [go_sem]); first | omega | decide) (by (try simp (disch := omega) only [go_sem, g1]); try rfl) ?_ | refine F_nil zT1 ?_ | refine F_lss (by rfl) (by rfl) zT6 ?_ | refine F_pickT (by rfl) zT0 ?_ | refine F_pickF (by rfl) zT0 ?_ | refine F_add (by rfl) (by rfl) (by (try simp (disch := omega) only [go_sem, Int.reduceAdd, Int.reduceSub, Int.reduceMul, g1]); try rfl) ?_ | refine F_lenS (by rfl) ?_ | refine hx_true (by rfl) ?_ | refine hx_false (by rfl) ?_ | refine hx_seq ?_ | refine hx_region ?_ | refine hx_block ?_ | refine hx_b ?_ | refine hx_skip ?_ | refine F_noU (by rfl) (by rfl) ?_ | refine F_leq (by rfl) (by rfl) (by first | exact leT (by omega) | exact leF (by omega) | rfl) ?_)
      exact hx_lG [0, 1, 2, 3, 9, 10] (q + 1) ⟨by omega, by omega⟩ (by omega) (by rw [this]; rfl)
    | true =>
      rw [h1] at g1
      by_cases h2 : p + 1 < q + 1
      · have := stop (by unfold okAt; rw [h1, decide_eq_true h2]; rfl)
        repeat (first | refine F_mv zT0 rfl ?_ | refine F_yes (by rfl) (by rfl) ?_ | refine F_no (by rfl) (by rfl) ?_ | refine F_iaS (by rfl) (by rfl) (by omega) zT1 ?_ | refine F_ldP (by rfl) (by (try simp only [go_sem]); first | omega | decide) (by (try simp (disch := omega) only [go_sem, g1]); try rfl) ?_ | refine F_nil zT1 ?_ | refine F_lss (by rfl) (by rfl) zT6 ?_ | refine F_pickT (by rfl) zT0 ?_ | refine F_add (by rfl) (by rfl) (by (try simp (disch := omega) only [go_sem, Int.reduceAdd, Int.reduceSub, Int.reduceMul, g1]); try rfl) ?_ | refine F_lenS (by rfl) ?_ | refine hx_true (by rfl) ?_ | refine hx_seq ?_ | refine hx_region ?_ | refine hx_block ?_ | refine hx_b ?_ | refine hx_skip ?_ | refine F_leq (by rfl) (by rfl) (by first | exact leT (by omega) | exact leF (by omega) | rfl) ?_ | refine F_gtr (by rfl) (by rfl) zT6 ?_)
        exact hx_lG [0, 1, 2, 3, 9, 10] (q + 1) ⟨by omega, by omega⟩ (by omega) (by rw [this]; rfl)
      · cases h3 : (A.getD p (false, false)).2 with
        | true =>
          rw [h3] at g2
          have := stop (by unfold okAt; rw [h1, h3]; simp)
          repeat (first | refine F_mv zT0 rfl ?_ | refine F_yes (by rfl) (by rfl) ?_ | refine F_iaS (by rfl) (by rfl) (by omega) zT1 ?_ | refine F_ldP (by rfl) (by (try simp only [go_sem]); first | omega | decide) (by (try simp (disch := omega) only [go_sem, g1, g2]); try rfl) ?_ | refine F_nil zT1 ?_ | refine F_lss (by rfl) (by rfl) zT6 ?_ | refine F_pickT (by rfl) zT0 ?_ | refine F_pickF (by rfl) zT0 ?_ | refine F_add (by rfl) (by rfl) (by (try simp (disch := omega) only [go_sem, Int.reduceAdd, Int.reduceSub, Int.reduceMul, g1, g2]); try rfl) ?_ | refine F_lenS (by rfl) ?_ | refine hx_true (by rfl) ?_ | refine hx_seq ?_ | refine hx_region ?_ | refine hx_block ?_ | refine hx_b ?_ | refine hx_skip ?_ | refine F_leq (by rfl) (by rfl) (by first | exact leT (by omega) | exact leF (by omega) | rfl) ?_ | refine F_gtr (by rfl) (by rfl) zT6 ?_)
          exact hx_lG [0, 1, 2, 3, 9, 10] (q + 1) ⟨by omega, by omega⟩ (by omega) (by rw [this]; rfl)
        | false =>
          rw [h3] at g2
          have := go_on (by unfold okAt; rw [h1, h3, decide_eq_false h2]; rfl)
          repeat (first | refine F_mv zT0 rfl ?_ | refine F_yes (by rfl) (by rfl) ?_ | refine F_iaS (by rfl) (by rfl) (by omega) zT1 ?_ | refine F_ldP (by rfl) (by (try simp only [go_sem]); first | omega | decide) (by (try simp (disch := omega) only [go_sem, g1, g2]); try rfl) ?_ | refine F_nil zT1 ?_ | refine F_lss (by rfl) (by rfl) zT6 ?_ | refine F_pickT (by rfl) zT0 ?_ | refine F_pickF (by rfl) zT0 ?_ | refine F_add (by rfl) (by rfl) (by (try simp (disch := omega) only [go_sem, Int.reduceAdd, Int.reduceSub, Int.reduceMul, g1, g2]); try rfl) ?_ | refine F_lenS (by rfl) ?_ | refine hx_true (by rfl) ?_ | refine hx_false (by rfl) ?_ | refine hx_seq ?_ | refine hx_region ?_ | refine hx_block ?_ | refine hx_b ?_ | refine hx_skip ?_ | refine F_leq (by rfl) (by rfl) (by first | exact leT (by omega) | exact leF (by omega) | rfl) ?_ | refine F_gtr (by rfl) (by rfl) zT6 ?_)
          exact hx_lG [0, 1, 2, 3, 9, 10] (q + 1) ⟨by omega, by omega⟩ (by omega) (by rw [this]; rfl)
  · obtain rfl : q = top := by omega
    by_cases hq1 : q + 1 < A.length
    · repeat (first | refine F_mv zT0 rfl ?_ | refine F_yes (by rfl) (by rfl) ?_ | refine F_nil zT1 ?_ | refine F_lss (by rfl) (by rfl) zT6 ?_ | refine F_pickT (by rfl) zT0 ?_ | refine F_add (by rfl) (by rfl) zT11 ?_ | refine F_lenS (by rfl) ?_ | refine hx_exitS (by rfl) ?_ | refine hx_false (by rfl) ?_ | refine hx_seq ?_ | refine hx_region ?_ | refine F_leq (by rfl) (by rfl) (by first | exact leT (by omega) | exact leF (by omega) | rfl) ?_)
      refine hx_retF (by (try simp only [List.map_cons, List.map_nil]); repeat (first | (apply eL1; · exact zT0) | rfl)) zT5 zT7 ?_
      rfl
    · repeat (first | refine F_mv zT0 rfl ?_ | refine F_no (by rfl) (by rfl) ?_ | refine F_nil zT1 ?_ | refine F_lss (by rfl) (by rfl) zT6 ?_ | refine F_pickF (by rfl) zT0 ?_ | refine F_lenS (by rfl) ?_ | refine hx_exitS (by rfl) ?_ | refine hx_false (by rfl) ?_ | refine hx_seq ?_ | refine hx_region ?_)
      refine hx_retF (by (try simp only [List.map_cons, List.map_nil]); repeat (first | (apply eL1; · exact zT0) | rfl)) zT5 zT7 ?_
      rfl

theorem endsF_lt {A : List (Bool × Bool)} {h k p : Nat} (hp : p < A.length - 1) : endsF A h (k + 1) p = match down A p (min (A.length - 1) (p + h)) with
    | none => none
    | some q => (endsF A h k q).map (q :: ·) := by rw [endsF, if_neg (by omega)]; cases down A p (min (A.length - 1) (p + h)) <;> rfl
theorem endsF_ge {A : List (Bool × Bool)} {h k p : Nat} (hp : A.length - 1 ≤ p) : endsF A h k p = some [] := by
  cases k with
  | zero => rfl
  | succ k => rw [endsF, if_pos hp]

set_option maxHeartbeats 8000000 in
theorem ht_ends (ls : List Nat) (hl : ls.length ≤ 512) (hb : ∀ n ∈ ls, 0 < n ∧ n ≤ 512) (from_ h most : Nat) (hf : from_ < (brk ls).length) (hh : h ≤ 100000) (hm : most ≤ 100000) :
    HT Try.prog 23 [I (nl ls), .int .i64 from_, .int .i64 h, .int .i64 most] (fun r => r = cutV (endsF (brk ls) h (most + 1) from_)) := by
  have hal := ht_allowed ls hl hb
  have hbo := ht_borders ls hl hb
  simp only [I, nl_len] at hal hbo
  have hT := sum_take_bd ls hb ls.length (Nat.le_refl _)
  rw [List.take_length] at hT
  have hbl := brk_len ls
  have halL := al_len (brk ls)
  have hboL := bo_len (brk ls)
  obtain ⟨A, hA⟩ : ∃ A, brk ls = A := ⟨_, rfl⟩
  rw [hA] at hal hbo hf hbl halL hboL ⊢
  refine HT.of rfl fc23 (Nat.le_of_ble_eq_true rfl) ?_
  unfold c23
  simp only [I, nl_len, argSlots, Nat.reduceAdd]
  repeat (first | refine F_mv zT0 rfl ?_ | refine F_nil zT1 ?_ | refine hx_seq ?_ | refine hx_region ?_ | refine F_mvnil rfl (by rfl) zT1 ?_)
  refine F_call (by (try simp only [List.map_cons, List.map_nil]); repeat (first | (apply eL1; · exact zT0) | rfl)) (by simp (disch := omega) only [thawL, HV.thaw, allIds, aget, nget, if_true, if_false, reduceIte, Nat.reduceEqDiff, stripL, HV.strip, win_intsE, win_boolsE, Nat.mul_one, List.cons_append, List.nil_append, List.append_nil, I, Bl, T3, List.getD_cons_zero, List.getD_cons_succ, HL.ints_strip, HL.bools_strip, trip_strip]; try rfl) (hal) ?_
  rintro _ rfl
  refine ⟨(by simp only [refFreeL, HV.refFree, noRdL, HV.noRd, HL.ints_noRd, HL.bools_noRd, trip_noRd, Bool.or_true, Bool.true_or, Bool.or_false, Bool.false_or, Bool.and_true, Bool.true_and, Bool.and_self, List.isEmpty_nil, beq_self_eq_true, List.cons_append, List.nil_append]), _, _, _, _, _, zT4, (by decide), (by simp only [upF, upS]; try rfl), ?_⟩
  repeat (first | refine F_mv zT0 rfl ?_ | refine F_nil zT1 ?_ | refine hx_seq ?_ | refine hx_region ?_)
  refine F_call (by (try simp only [List.map_cons, List.map_nil]); repeat (first | (apply eL1; · exact zT0) | rfl)) (by simp (disch := omega) only [thawL, HV.thaw, allIds, aget, nget, if_true, if_false, reduceIte, Nat.reduceEqDiff, stripL, HV.strip, win_intsE, win_boolsE, Nat.mul_one, List.cons_append, List.nil_append, List.append_nil, I, Bl, T3, List.getD_cons_zero, List.getD_cons_succ, HL.ints_strip, HL.bools_strip, trip_strip]; try rfl) (hbo) ?_
  rintro _ rfl
  refine ⟨(by simp only [refFreeL, HV.refFree, noRdL, HV.noRd, HL.ints_noRd, HL.bools_noRd, trip_noRd, Bool.or_true, Bool.true_or, Bool.or_false, Bool.false_or, Bool.and_true, Bool.true_and, Bool.and_self, List.isEmpty_nil, beq_self_eq_true, List.cons_append, List.nil_append]), _, _, _, _, _, zT4, (by decide), (by simp only [upF, upS]; try rfl), ?_⟩
  repeat (first | refine F_mv zT0 rfl ?_ | refine F_nil zT1 ?_ | refine hx_seq ?_ | refine hx_region ?_ | refine hx_block ?_ | refine F_mvnil rfl (by rfl) zT1 ?_)
  refine hx_loopG [2, 3, 10, 11, 12, 13] (fun s : List Nat × Nat × Nat => s.2.1 < A.length ∧ s.1.length + s.2.2 = most + 1 ∧ endsF A h (most + 1) from_ = (endsF A h s.2.2 s.2.1).map (s.1 ++ ·))
    (fun s => ⟨[(2, .int .i64 h), (3, .int .i64 most), (10, .ref 0 [] 1 0 A.length), (11, .ref 1 [] 1 0 A.length), (12, .ref 2 [] 1 0 s.1.length), (13, .int .i64 s.2.1)], [(0, .osl 1 A.length (HL.bools (Al A))), (1, .osl 1 A.length (HL.bools (Bo A))), (2, .osl 1 s.1.length (HL.ints (nl s.1)))], 3⟩)
    (fun s => A.length - s.2.1) ([], from_, most + 1) ⟨hf, by simp, by simp⟩ rfl ?_
  rintro ⟨out, p, k⟩ ⟨hp, hk, hc⟩
  simp only at hp hk hc ⊢
  have hol := nl_len out
  by_cases hpe : p < A.length - 1
  · cases k with
    | zero =>
      have hc2 : endsF A h (most + 1) from_ = some out := by
        rw [hc]
        show Option.map (out ++ ·) (some []) = _
        simp
      repeat (first | refine F_mv zT0 rfl ?_ | refine F_yes (by rfl) (by rfl) ?_ | refine F_nil zT1 ?_ | refine F_lss (by rfl) (by rfl) zT6 ?_ | refine F_pickT (by rfl) zT0 ?_ | refine F_lenR (by rfl) ?_ | refine hx_exitS (by rfl) ?_ | refine hx_false (by rfl) ?_ | refine hx_seq ?_ | refine hx_region ?_ | refine F_sub (by rfl) (by rfl) zT11 ?_ | refine F_leq (by rfl) (by rfl) (by first | exact leT (by omega) | exact leF (by omega) | rfl) ?_)
      refine hx_retF (by (try simp only [List.map_cons, List.map_nil]); repeat (first | (apply eL1; · exact zT0) | rfl)) zT5 zT7 ?_
      rw [hc2]; rfl
    | succ k =>
      rw [endsF_lt hpe] at hc
      have hwA : win (HL.bools (Al A)) 0 (A.length * 1) = HL.bools (Al A) := win_all _ (by rw [HL.bools_len, halL]; omega)
      have hwB : win (HL.bools (Bo A)) 0 (A.length * 1) = HL.bools (Bo A) := win_all _ (by rw [HL.bools_len, hboL]; omega)
      repeat (first | refine F_mv zT0 rfl ?_ | refine F_yes (by rfl) (by rfl) ?_ | refine F_nil zT1 ?_ | refine F_lss (by rfl) (by rfl) zT6 ?_ | refine F_pickT (by rfl) zT0 ?_ | refine F_lenR (by rfl) ?_ | refine hx_true (by rfl) ?_ | refine hx_seq ?_ | refine hx_region ?_ | refine hx_block ?_ | refine hx_skip ?_ | refine F_sub (by rfl) (by rfl) zT11 ?_ | refine F_leq (by rfl) (by rfl) (by first | exact leT (by omega) | exact leF (by omega) | rfl) ?_)
      refine F_call (by (try simp only [List.map_cons, List.map_nil]); repeat (first | (apply eL1; · exact zT0) | rfl)) (by simp (disch := omega) only [thawL, hwA, hwB, HV.thaw, allIds, aget, nget, if_true, if_false, reduceIte, Nat.reduceEqDiff, stripL, HV.strip, win_intsE, win_boolsE, Nat.mul_one, List.cons_append, List.nil_append, List.append_nil, I, Bl, T3, List.getD_cons_zero, List.getD_cons_succ, HL.ints_strip, HL.bools_strip, trip_strip]; try rfl) (ht_column A p h (by omega) hp hh) ?_
      rintro _ rfl
      refine ⟨(by simp only [refFreeL, HV.refFree, noRdL, HV.noRd, HL.ints_noRd, HL.bools_noRd, trip_noRd, Bool.or_true, Bool.true_or, Bool.or_false, Bool.false_or, Bool.and_true, Bool.true_and, Bool.and_self, List.isEmpty_nil, beq_self_eq_true, List.cons_append, List.nil_append]), _, _, _, _, _, zT4, (by decide), (by simp only [upF, upS]; try rfl), ?_⟩
      cases hd : down A p (min (A.length - 1) (p + h)) with
      | none =>
        rw [hd] at hc
        simp only [optI]
        repeat (first | refine F_mv zT0 rfl ?_ | refine F_nil zT1 ?_ | refine F_lss (by rfl) (by rfl) zT6 ?_ | refine hx_true (by rfl) ?_ | refine hx_seq ?_ | refine hx_region ?_ | refine F_mvnil rfl (by rfl) zT1 ?_)
        refine hx_retF (by (try simp only [List.map_cons, List.map_nil]); repeat (first | (apply eL1; · exact zT0) | rfl)) zT5 zT7 ?_
        rw [hc]; rfl
      | some q =>
        rw [hd] at hc
        have hq := down_le hd
        have hq2 : q ≤ A.length - 1 := by have := hq.2.1; omega
        simp only [optI]
        simp only [Option.map_map] at hc
        repeat (first | refine F_mv zT0 rfl ?_ | refine F_nil zT1 ?_ | refine F_lss (by rfl) (by rfl) zT6 ?_ | refine hx_false (by rfl) ?_ | refine hx_seq ?_ | refine hx_region ?_ | refine hx_b ?_ | refine hx_skip ?_ | refine F_bsl zT1 (by (try simp only [List.map_cons, List.map_nil]); repeat (first | (apply eL1; · exact zT0) | rfl)) (by (try simp only [go_sem]); try rfl) (by first | rfl | exact HL.ints_flat _ | exact HL.bools_flat _) (by rfl) (by rfl) ?_ | refine F_appR zT1 (by rfl) zT0 zT9 (by (try simp (disch := omega) only [go_sem, reduceIte, Nat.reduceEqDiff, Nat.reduceAdd, Nat.reduceMul, nl_snoc]); try omega) (by first | exact eO rfl | exact eW rfl) (by (try simp (disch := omega) only [go_sem, reduceIte, Nat.reduceEqDiff, Nat.reduceAdd, Nat.reduceMul, nl_snoc]); try rfl) zT1 (by omega) (by unfold maxLen; omega) (by (try simp only [go_sem]); first | omega | decide) (by (try simp (disch := omega) only [go_sem, reduceIte, Nat.reduceEqDiff, Nat.reduceAdd, Nat.reduceMul, nl_snoc]); try rfl) (by (try simp only [go_sem]); try rfl) ?_)
        refine hx_lG [2, 3, 10, 11, 12, 13] (out ++ [q], q, k) ⟨by simp only; omega, by simp only [List.length_append, List.length_cons, List.length_nil]; omega, ?_⟩ (by simp only; omega) (by simp only [List.length_append, List.length_cons, List.length_nil, Nat.zero_add]; rfl)
        rw [hc]
        congr 1
        funext l
        simp
  · rw [endsF_ge (p := p) (k := k) (by omega)] at hc
    repeat (first | refine F_mv zT0 rfl ?_ | refine F_no (by rfl) (by rfl) ?_ | refine F_nil zT1 ?_ | refine F_lss (by rfl) (by rfl) zT6 ?_ | refine F_pickF (by rfl) zT0 ?_ | refine F_lenR (by rfl) ?_ | refine hx_exitS (by rfl) ?_ | refine hx_false (by rfl) ?_ | refine hx_seq ?_ | refine hx_region ?_ | refine F_sub (by rfl) (by rfl) zT11 ?_)
    refine hx_retF (by (try simp only [List.map_cons, List.map_nil]); repeat (first | (apply eL1; · exact zT0) | rfl)) zT5 zT7 ?_
    rw [hc]
    simp [cutV, tupOf]
end Go.Proofs.Ytpffacaeonccpaa
