/-
  OWN WORK. Valid, breaks and cut of package columns, in the value language.
-/
import Derived.Test.YtpffacaeonccpaaR01
import Derived.Test.YtpffacaeonccpaaCoP
set_option linter.unusedSimpArgs false
set_option linter.unusedVariables false
namespace Go.Proofs.Ytpffacaeonccpaa
open Go.RowKit Go.HL

def nl (l : List Nat) : List Int := l.map fun x : Nat => (x : Int)
theorem nl_len (l : List Nat) : (nl l).length = l.length := by simp [nl]
theorem nl_getD (l : List Nat) (i : Nat) : (nl l).getD i 0 = (l.getD i 0 : Nat) := by
  simp only [nl, List.getD_eq_getElem?_getD, List.getElem?_map]
  cases l[i]? <;> rfl
theorem nl_snoc (l : List Nat) (x : Nat) : nl l ++ [(x : Int)] = nl (l ++ [x]) := by simp [nl]
theorem nl_take (l : List Nat) (k : Nat) : (nl l).take k = nl (l.take k) := by simp [nl, List.map_take]

/-- The positions, as they lie in memory. -/
def plc (A : List (Bool × Bool)) : List HV := A.flatMap fun x => [.bool x.1, .bool x.2]
theorem plc_len (A : List (Bool × Bool)) : (plc A).length = A.length * 2 := by
  induction A with
  | nil => rfl
  | cons x r ih => simp only [plc, List.flatMap_cons, List.length_append, List.length_cons, List.length_nil] at ih ⊢; omega
theorem plc_cons (x : Bool × Bool) (A : List (Bool × Bool)) : plc (x :: A) = .bool x.1 :: .bool x.2 :: plc A := rfl
theorem plc_get : ∀ (A : List (Bool × Bool)) (i : Nat), i < A.length → (plc A).getD (i * 2) .dead = .bool (A.getD i (false, false)).1 ∧ (plc A).getD (i * 2 + 1) .dead = .bool (A.getD i (false, false)).2
  | [], i, h => by simp at h
  | x :: A, 0, _ => ⟨rfl, rfl⟩
  | x :: A, i + 1, h => by
    have ih := plc_get A i (by simpa using h)
    rw [plc_cons, show (i + 1) * 2 = i * 2 + 1 + 1 by omega, List.getD_cons_succ, List.getD_cons_succ, List.getD_cons_succ, List.getD_cons_succ, List.getD_cons_succ]
    exact ih
theorem plc_snoc (A : List (Bool × Bool)) (x y : Bool) : plc A ++ [.bool x, .bool y] = plc (A ++ [(x, y)]) := by simp [plc]
theorem plc_strip (A : List (Bool × Bool)) : stripL (plc A) = plc A := by
  induction A with
  | nil => rfl
  | cons x r ih => simp only [plc_cons, stripL, HV.strip, ih]
theorem plc_noRd (A : List (Bool × Bool)) : noRdL (plc A) = true := by
  induction A with
  | nil => rfl
  | cons x r ih => simpa [plc_cons, noRdL, HV.noRd] using ih
def Pl (A : List (Bool × Bool)) : HV := .sl A.length (plc A)

/-- Whether lines, rows and columns are valid. -/
def CVal (l : List Int) (rows cols : Int) : Prop := 3 ≤ rows ∧ rows ≤ 256 ∧ 1 ≤ cols ∧ cols ≤ 8 ∧ l.length ≤ 512 ∧ ∀ x ∈ l, 1 ≤ x ∧ x ≤ 512
instance (l : List Int) (rows cols : Int) : Decidable (CVal l rows cols) := by unfold CVal; infer_instance
def badL (x : Int) : Bool := decide (x < 1) || decide (512 < x)

theorem any_take_succ {α : Type} (l : List α) (p : α → Bool) (d : α) {i : Nat} (hi : i < l.length) : (l.take (i + 1)).any p = ((l.take i).any p || p (l.getD i d)) := by
  rw [List.take_succ_eq_append_getElem hi, List.any_append]
  simp [List.getD_eq_getElem?_getD, hi]
theorem any_of_take {α : Type} (l : List α) (p : α → Bool) {i : Nat} (h : (l.take i).any p = true) : l.any p = true := by
  rw [List.any_eq_true] at h ⊢
  obtain ⟨x, hx, h2⟩ := h
  exact ⟨x, List.mem_of_mem_take hx, h2⟩
theorem getD_memI {α : Type} (l : List α) (d : α) {i : Nat} (hi : i < l.length) : l.getD i d ∈ l := by
  rw [List.getD_eq_getElem?_getD, List.getElem?_eq_getElem hi, Option.getD_some]; exact List.getElem_mem hi

theorem ht_col1 (x : Int) : HT Try.prog 17 [.int .i64 x] (fun r => r = .bool (badL x)) := by
  refine HT.of rfl fc17 (Nat.le_of_ble_eq_true rfl) ?_
  unfold c17 badL
  simp only [argSlots, Nat.reduceAdd]
  by_cases h1 : x < 1
  · rw [decide_eq_true h1]
    repeat (first | refine F_mv zT0 rfl ?_ | refine F_no (by rfl) (by rfl) ?_ | refine F_nil zT1 ?_ | refine F_lss (by rfl) (by rfl) zT6 ?_ | refine F_pickT (by rfl) zT0 ?_ | refine hx_seq ?_ | refine hx_region ?_)
    refine hx_retF (by (try simp only [List.map_cons, List.map_nil]); repeat (first | (apply eL1; · exact zT0) | rfl)) zT5 zT7 ?_
    rfl
  · rw [decide_eq_false h1]
    by_cases h2 : 512 < x
    · rw [decide_eq_true h2]
      repeat (first | refine F_mv zT0 rfl ?_ | refine F_yes (by rfl) (by rfl) ?_ | refine F_nil zT1 ?_ | refine F_lss (by rfl) (by rfl) zT6 ?_ | refine F_pickF (by rfl) zT0 ?_ | refine hx_seq ?_ | refine hx_region ?_ | refine F_gtr (by rfl) (by rfl) zT6 ?_)
      refine hx_retF (by (try simp only [List.map_cons, List.map_nil]); repeat (first | (apply eL1; · exact zT0) | rfl)) zT5 zT7 ?_
      rfl
    · rw [decide_eq_false h2]
      repeat (first | refine F_mv zT0 rfl ?_ | refine F_yes (by rfl) (by rfl) ?_ | refine F_nil zT1 ?_ | refine F_lss (by rfl) (by rfl) zT6 ?_ | refine F_pickF (by rfl) zT0 ?_ | refine hx_seq ?_ | refine hx_region ?_ | refine F_gtr (by rfl) (by rfl) zT6 ?_)
      refine hx_retF (by (try simp only [List.map_cons, List.map_nil]); repeat (first | (apply eL1; · exact zT0) | rfl)) zT5 zT7 ?_
      rfl

set_option maxHeartbeats 4000000 in
theorem ht_idx0 (l : List Int) (f : FuncId) (p : Int → Bool) (hl : l.length ≤ 9223372036854775807) (hp : ∀ x ∈ l, HT Try.prog f [.int .i64 x] (fun r => r = .bool (p x))) :
    HT Try.prog 25 [I l, .fn f []] (fun r => ∃ e : Int, r = .int .i64 e ∧ -1 ≤ e ∧ (0 ≤ e ↔ l.any p = true)) := by
  refine HT.of rfl fc25 (Nat.le_of_ble_eq_true rfl) ?_
  unfold c25
  simp only [I, argSlots, Nat.reduceAdd]
  repeat (first | refine F_mv zT0 rfl ?_ | refine F_nil zT1 ?_ | refine F_lenS (by rfl) ?_ | refine hx_seq ?_ | refine hx_region ?_ | refine hx_block ?_)
  refine hx_loopG [0, 1, 7, 8] (fun i : Nat => i ≤ l.length ∧ (l.take i).any p = false) (fun i => ⟨[(0, .sl l.length (HL.ints l)), (1, .fn f []), (7, .int .i64 l.length), (8, .int .i64 i)], [], 0⟩) (fun i => l.length - i) 0 ⟨by omega, rfl⟩ rfl ?_
  rintro i ⟨hi, hno⟩
  by_cases hil : i < l.length
  · obtain ⟨x, hx⟩ : ∃ x, l.getD i 0 = x := ⟨_, rfl⟩
    have hst := any_take_succ l p 0 hil
    rw [hx, hno, Bool.false_or] at hst
    repeat (first | refine F_mv zT0 rfl ?_ | refine F_iaS (by rfl) (by rfl) (by omega) zT1 ?_ | refine F_ldP (by rfl) (by (try simp only [go_sem]); first | omega | decide) (by (try simp (disch := omega) only [go_sem, hx]); try rfl) ?_ | refine F_nil zT1 ?_ | refine F_lss (by rfl) (by rfl) zT6 ?_ | refine hx_true (by rfl) ?_ | refine hx_seq ?_ | refine hx_region ?_ | refine hx_block ?_ | refine hx_skip ?_)
    refine F_callv (by rfl) (by (try simp only [List.map_cons, List.map_nil]); repeat (first | (apply eL1; · exact zT0) | rfl)) (by simp (disch := omega) only [thawL, HV.thaw, allIds, aget, nget, if_true, if_false, reduceIte, Nat.reduceEqDiff, stripL, HV.strip, win_intsE, win_boolsE, Nat.mul_one, List.cons_append, List.nil_append, List.append_nil, I, Bl, T3, List.getD_cons_zero, List.getD_cons_succ, HL.ints_strip, HL.bools_strip, trip_strip]; try rfl) (hp x (hx ▸ getD_memI l 0 hil)) ?_
    rintro _ rfl
    refine ⟨(by simp only [refFreeL, HV.refFree, noRdL, HV.noRd, HL.ints_noRd, HL.bools_noRd, trip_noRd, Bool.or_true, Bool.true_or, Bool.or_false, Bool.false_or, Bool.and_true, Bool.true_and, Bool.and_self, List.isEmpty_nil, beq_self_eq_true, List.cons_append, List.nil_append]), _, _, _, _, _, zT4, (by decide), (by simp only [upF, upS]; try rfl), ?_⟩
    cases hpx : p x with
    | true =>
      repeat (first | refine F_mv zT0 rfl ?_ | refine F_nil zT1 ?_ | refine hx_true (by rfl) ?_ | refine hx_seq ?_ | refine hx_region ?_)
      refine hx_retF (by (try simp only [List.map_cons, List.map_nil]); repeat (first | (apply eL1; · exact zT0) | rfl)) zT5 zT7 ?_
      exact ⟨i, rfl, by omega, by rw [any_of_take l p (hst.trans hpx)]; simp⟩
    | false =>
      repeat (first | refine F_mv zT0 rfl ?_ | refine F_nil zT1 ?_ | refine F_add (by rfl) (by rfl) zT11 ?_ | refine hx_false (by rfl) ?_ | refine hx_region ?_ | refine hx_b ?_ | refine hx_skip ?_)
      exact hx_lG [0, 1, 7, 8] (i + 1) ⟨hil, hst.trans hpx⟩ (by omega) rfl
  · obtain rfl : i = l.length := by omega
    rw [List.take_length] at hno
    repeat (first | refine F_mv zT0 rfl ?_ | refine F_nil zT1 ?_ | refine F_lss (by rfl) (by rfl) zT6 ?_ | refine hx_exitS (by rfl) ?_ | refine hx_false (by rfl) ?_ | refine hx_seq ?_ | refine hx_region ?_)
    refine hx_retF (by (try simp only [List.map_cons, List.map_nil]); repeat (first | (apply eL1; · exact zT0) | rfl)) zT5 zT7 ?_
    exact ⟨-1, rfl, by omega, by rw [hno]; simp⟩
theorem ht_any0 (l : List Int) (f : FuncId) (p : Int → Bool) (hl : l.length ≤ 9223372036854775807) (hp : ∀ x ∈ l, HT Try.prog f [.int .i64 x] (fun r => r = .bool (p x))) :
    HT Try.prog 16 [I l, .fn f []] (fun r => r = .bool (l.any p)) := by
  refine HT.of rfl fc16 (Nat.le_of_ble_eq_true rfl) ?_
  unfold c16
  simp only [I, argSlots, Nat.reduceAdd]
  repeat (first | refine F_mv zT0 rfl ?_ | refine F_nil zT1 ?_ | refine hx_seq ?_ | refine hx_region ?_)
  refine F_call (by (try simp only [List.map_cons, List.map_nil]); repeat (first | (apply eL1; · exact zT0) | rfl)) (by simp (disch := omega) only [thawL, HV.thaw, allIds, aget, nget, if_true, if_false, reduceIte, Nat.reduceEqDiff, stripL, HV.strip, win_intsE, win_boolsE, Nat.mul_one, List.cons_append, List.nil_append, List.append_nil, I, Bl, T3, List.getD_cons_zero, List.getD_cons_succ, HL.ints_strip, HL.bools_strip, trip_strip]; try rfl) (ht_idx0 l f p hl hp) ?_
  rintro _ ⟨e, rfl, he, h⟩
  refine ⟨(by simp only [refFreeL, HV.refFree, noRdL, HV.noRd, HL.ints_noRd, HL.bools_noRd, trip_noRd, Bool.or_true, Bool.true_or, Bool.or_false, Bool.false_or, Bool.and_true, Bool.true_and, Bool.and_self, List.isEmpty_nil, beq_self_eq_true, List.cons_append, List.nil_append]), _, _, _, _, _, zT4, (by decide), (by simp only [upF, upS]; try rfl), ?_⟩
  by_cases h0 : 0 ≤ e
  · repeat (first | refine F_mv zT0 rfl ?_ | refine F_nil zT1 ?_ | refine F_geq (by rfl) (by rfl) (by first | exact leT (by omega) | exact leF (by omega) | rfl) ?_)
    refine hx_retF (by (try simp only [List.map_cons, List.map_nil]); repeat (first | (apply eL1; · exact zT0) | rfl)) zT5 zT7 ?_
    rw [h.1 h0]; rfl
  · have h1 : l.any p = false := by
      cases hb : l.any p with
      | false => rfl
      | true => exact absurd (h.2 hb) h0
    repeat (first | refine F_mv zT0 rfl ?_ | refine F_nil zT1 ?_ | refine F_geq (by rfl) (by rfl) (by first | exact leT (by omega) | exact leF (by omega) | rfl) ?_)
    refine hx_retF (by (try simp only [List.map_cons, List.map_nil]); repeat (first | (apply eL1; · exact zT0) | rfl)) zT5 zT7 ?_
    rw [h1]; rfl

theorem ht_colValid (l : List Int) (rows cols : Int) (hl : l.length ≤ 9223372036854775807) : HT Try.prog 7 [I l, .int .i64 rows, .int .i64 cols] (fun r => r = .bool (decide (CVal l rows cols))) := by
  refine HT.of rfl fc7 (Nat.le_of_ble_eq_true rfl) ?_
  unfold c7
  simp only [I, argSlots, Nat.reduceAdd]
  by_cases h1 : rows < 3
  · repeat (first | refine F_mv zT0 rfl ?_ | refine F_no (by rfl) (by rfl) ?_ | refine F_nil zT1 ?_ | refine F_lss (by rfl) (by rfl) zT6 ?_ | refine F_pickT (by rfl) zT0 ?_ | refine hx_true (by rfl) ?_ | refine hx_seq ?_ | refine hx_region ?_)
    refine hx_retF (by (try simp only [List.map_cons, List.map_nil]); repeat (first | (apply eL1; · exact zT0) | rfl)) zT5 zT7 ?_
    rw [decide_eq_false (by unfold CVal; omega)]; rfl
  by_cases h2 : 256 < rows
  · repeat (first | refine F_mv zT0 rfl ?_ | refine F_yes (by rfl) (by rfl) ?_ | refine F_no (by rfl) (by rfl) ?_ | refine F_nil zT1 ?_ | refine F_lss (by rfl) (by rfl) zT6 ?_ | refine F_pickT (by rfl) zT0 ?_ | refine F_pickF (by rfl) zT0 ?_ | refine hx_true (by rfl) ?_ | refine hx_seq ?_ | refine hx_region ?_ | refine F_gtr (by rfl) (by rfl) zT6 ?_)
    refine hx_retF (by (try simp only [List.map_cons, List.map_nil]); repeat (first | (apply eL1; · exact zT0) | rfl)) zT5 zT7 ?_
    rw [decide_eq_false (by unfold CVal; omega)]; rfl
  by_cases h3 : cols < 1
  · repeat (first | refine F_mv zT0 rfl ?_ | refine F_yes (by rfl) (by rfl) ?_ | refine F_no (by rfl) (by rfl) ?_ | refine F_nil zT1 ?_ | refine F_lss (by rfl) (by rfl) zT6 ?_ | refine F_pickT (by rfl) zT0 ?_ | refine F_pickF (by rfl) zT0 ?_ | refine hx_true (by rfl) ?_ | refine hx_seq ?_ | refine hx_region ?_ | refine F_gtr (by rfl) (by rfl) zT6 ?_)
    refine hx_retF (by (try simp only [List.map_cons, List.map_nil]); repeat (first | (apply eL1; · exact zT0) | rfl)) zT5 zT7 ?_
    rw [decide_eq_false (by unfold CVal; omega)]; rfl
  by_cases h4 : 8 < cols
  · repeat (first | refine F_mv zT0 rfl ?_ | refine F_yes (by rfl) (by rfl) ?_ | refine F_no (by rfl) (by rfl) ?_ | refine F_nil zT1 ?_ | refine F_lss (by rfl) (by rfl) zT6 ?_ | refine F_pickT (by rfl) zT0 ?_ | refine F_pickF (by rfl) zT0 ?_ | refine hx_true (by rfl) ?_ | refine hx_seq ?_ | refine hx_region ?_ | refine F_gtr (by rfl) (by rfl) zT6 ?_)
    refine hx_retF (by (try simp only [List.map_cons, List.map_nil]); repeat (first | (apply eL1; · exact zT0) | rfl)) zT5 zT7 ?_
    rw [decide_eq_false (by unfold CVal; omega)]; rfl
  by_cases h5 : 512 < (l.length : Int)
  · repeat (first | refine F_mv zT0 rfl ?_ | refine F_yes (by rfl) (by rfl) ?_ | refine F_nil zT1 ?_ | refine F_lss (by rfl) (by rfl) zT6 ?_ | refine F_pickF (by rfl) zT0 ?_ | refine F_lenS (by rfl) ?_ | refine hx_true (by rfl) ?_ | refine hx_seq ?_ | refine hx_region ?_ | refine F_gtr (by rfl) (by rfl) zT6 ?_)
    refine hx_retF (by (try simp only [List.map_cons, List.map_nil]); repeat (first | (apply eL1; · exact zT0) | rfl)) zT5 zT7 ?_
    rw [decide_eq_false (by unfold CVal; omega)]; rfl
  repeat (first | refine F_mv zT0 rfl ?_ | refine F_yes (by rfl) (by rfl) ?_ | refine F_nil zT1 ?_ | refine F_lss (by rfl) (by rfl) zT6 ?_ | refine F_pickF (by rfl) zT0 ?_ | refine F_lenS (by rfl) ?_ | refine hx_false (by rfl) ?_ | refine hx_seq ?_ | refine hx_region ?_ | refine hx_skip ?_ | refine F_gtr (by rfl) (by rfl) zT6 ?_)
  refine F_call (by (try simp only [List.map_cons, List.map_nil]); repeat (first | (apply eL1; · exact zT0) | rfl)) (by simp (disch := omega) only [thawL, HV.thaw, allIds, aget, nget, if_true, if_false, reduceIte, Nat.reduceEqDiff, stripL, HV.strip, win_intsE, win_boolsE, Nat.mul_one, List.cons_append, List.nil_append, List.append_nil, I, Bl, T3, List.getD_cons_zero, List.getD_cons_succ, HL.ints_strip, HL.bools_strip, trip_strip]; try rfl) (ht_any0 l _ badL hl (fun x _ => ht_col1 x)) ?_
  rintro _ rfl
  refine ⟨(by simp only [refFreeL, HV.refFree, noRdL, HV.noRd, HL.ints_noRd, HL.bools_noRd, trip_noRd, Bool.or_true, Bool.true_or, Bool.or_false, Bool.false_or, Bool.and_true, Bool.true_and, Bool.and_self, List.isEmpty_nil, beq_self_eq_true, List.cons_append, List.nil_append]), _, _, _, _, _, zT4, (by decide), (by simp only [upF, upS]; try rfl), ?_⟩
  cases hb : l.any badL with
  | true =>
    repeat (first | refine F_mv zT0 rfl ?_ | refine F_nil zT1 ?_ | refine F_notT (by rfl) ?_)
    refine hx_retF (by (try simp only [List.map_cons, List.map_nil]); repeat (first | (apply eL1; · exact zT0) | rfl)) zT5 zT7 ?_
    have : ¬ CVal l rows cols := fun h => by
      obtain ⟨x, hx, hx2⟩ := List.any_eq_true.1 hb
      have := h.2.2.2.2.2 x hx
      simp [badL] at hx2
      omega
    rw [decide_eq_false this]; rfl
  | false =>
    repeat (first | refine F_mv zT0 rfl ?_ | refine F_nil zT1 ?_ | refine F_notF (by rfl) ?_)
    refine hx_retF (by (try simp only [List.map_cons, List.map_nil]); repeat (first | (apply eL1; · exact zT0) | rfl)) zT5 zT7 ?_
    have : CVal l rows cols := ⟨by omega, by omega, by omega, by omega, by omega, fun x hx => by
      have := List.any_eq_false.1 hb x hx
      simp [badL] at this
      omega⟩
    rw [decide_eq_true this]; rfl

set_option maxHeartbeats 4000000 in
theorem ht_breaks (ls : List Nat) (hl : ls.length ≤ 512) (hb : ∀ n ∈ ls, 0 < n ∧ n ≤ 512) : HT Try.prog 13 [I (nl ls)] (fun r => r = .osl 2 (brk ls).length (plc (brk ls))) := by
  refine HT.of rfl fc13 (Nat.le_of_ble_eq_true rfl) ?_
  unfold c13
  simp only [I, nl_len, argSlots, Nat.reduceAdd]
  have hsum : ∀ k, k ≤ ls.length → (ls.take k).sum ≤ 512 * k := fun k => by
    induction k with
    | zero => intro _; simp
    | succ k ih =>
      intro hk
      rw [List.take_succ_eq_append_getElem (by omega), List.sum_append]
      have := (hb ls[k] (List.getElem_mem _)).2
      have := ih (by omega)
      simp; omega
  have p0 : ([HV.bool true, HV.bool true] : List HV) = plc [(true, true)] := rfl
  repeat (first | refine F_mv zT0 rfl ?_ | refine F_nil zT1 ?_ | refine F_lenS (by rfl) ?_ | refine hx_seq ?_ | refine hx_region ?_ | refine hx_block ?_ | refine F_mvnil rfl (by rfl) zT1 ?_ | refine F_bsl zT1 (by (try simp only [List.map_cons, List.map_nil]); repeat (first | (apply eL1; · exact zT0) | rfl)) (by (try simp only [go_sem]); try rfl) (by first | rfl | exact HL.ints_flat _ | exact HL.bools_flat _) (by rfl) (by rfl) ?_ | refine F_bld (by (try simp only [List.map_cons, List.map_nil]); repeat (first | (apply eP1; · exact zT0) | rfl)) (by simp only [fillAt, setFrom, cellsOf, List.set_cons_zero, List.set_cons_succ]; try rfl) (by simp [notDead]) ?_)
  refine hx_loopG [3, 10, 11, 12] (fun i : Nat => i ≤ ls.length)
    (fun i => ⟨[(3, .ref 0 [] 2 0 (brk (ls.take i)).length), (10, .sl ls.length (HL.ints (nl ls))), (11, .int .i64 ls.length), (12, .int .i64 i)], [(0, .osl 2 (brk (ls.take i)).length (plc (brk (ls.take i))))], 1⟩)
    (fun i => ls.length - i) 0 (by omega) rfl ?_
  intro i hi
  by_cases hil : i < ls.length
  · obtain ⟨n, hn⟩ : ∃ n, ls.getD i 0 = n := ⟨_, rfl⟩
    have hnb := hb n (hn ▸ getD_memI ls 0 hil)
    have hng := nl_getD ls i
    rw [hn] at hng
    have hil' : i < (nl ls).length := by rw [nl_len]; exact hil
    have hbl := brk_len (ls.take i)
    have hs := hsum i hi
    have hblk : brk (ls.take (i + 1)) = brk (ls.take i) ++ blk n := by
      rw [List.take_succ_eq_append_getElem hil]
      have : ls[i] = n := by rw [← hn]; simp [List.getD_eq_getElem?_getD, hil]
      simp [brk, this]
    repeat (first | refine F_mv zT0 rfl ?_ | refine F_iaS (by rfl) (by rfl) (by omega) zT1 ?_ | refine F_ldP (by rfl) (by (try simp only [go_sem]); first | omega | decide) (by (try simp (disch := omega) only [go_sem, hng]); try rfl) ?_ | refine F_nil zT1 ?_ | refine F_lss (by rfl) (by rfl) zT6 ?_ | refine hx_true (by rfl) ?_ | refine hx_seq ?_ | refine hx_region ?_ | refine hx_block ?_ | refine hx_skip ?_)
    refine hx_loopG [3, 5, 10, 11, 12, 16, 17] (fun j : Nat => j ≤ n)
      (fun j => ⟨[(3, .ref 0 [] 2 0 ((brk (ls.take i)).length + j)), (5, .int .i64 n), (10, .sl ls.length (HL.ints (nl ls))), (11, .int .i64 ls.length), (12, .int .i64 i), (16, .int .i64 n), (17, .int .i64 j)], [(0, .osl 2 ((brk (ls.take i)).length + j) (plc (brk (ls.take i) ++ (blk n).take j)))], 1⟩)
      (fun j => n - j) 0 (by omega) (by simp only [List.take_zero, List.append_nil, Nat.add_zero]; rfl) ?_
    intro j hj
    have hpl : (plc (brk (ls.take i) ++ (blk n).take j)).length = ((brk (ls.take i)).length + j) * 2 := by rw [plc_len, List.length_append, List.length_take, blk_len]; congr 2; omega
    have hw : win (plc (brk (ls.take i) ++ (blk n).take j)) 0 (((brk (ls.take i)).length + j) * 2) = plc (brk (ls.take i) ++ (blk n).take j) := win_all _ hpl.symm
    by_cases hjn : j < n
    · have hstep : (blk n).take (j + 1) = (blk n).take j ++ [(decide (j + 1 = n) || (decide (2 ≤ j + 1) && decide (2 ≤ n - (j + 1))), decide (j + 1 = n))] := by
        rw [List.take_succ_eq_append_getElem (by rw [blk_len]; exact hjn)]
        congr 2
        have := blk_get hjn
        rw [List.getElem?_eq_getElem (by rw [blk_len]; exact hjn)] at this
        exact Option.some.inj this
      have fin : ∀ x y : Bool, x = (decide (j + 1 = n) || (decide (2 ≤ j + 1) && decide (2 ≤ n - (j + 1)))) → y = decide (j + 1 = n) → plc (brk (ls.take i) ++ (blk n).take j) ++ [.bool x, .bool y] = plc (brk (ls.take i) ++ (blk n).take (j + 1)) := fun x y hx hy => by
        rw [plc_snoc, hstep, hx, hy, List.append_assoc]
      by_cases h1 : j + 1 = n
      · have e := fin true true (by simp [h1]) (by simp [h1])
        repeat (first | refine F_mv zT0 rfl ?_ | refine F_no (by rfl) (by rfl) ?_ | refine F_nil zT1 ?_ | refine F_lss (by rfl) (by rfl) zT6 ?_ | refine F_eql (by rfl) (by rfl) (by first | exact eqT (by omega) | exact eqF (by omega) | rfl) ?_ | refine F_pickT (by rfl) zT0 ?_ | refine F_add (by rfl) (by rfl) (by (try simp (disch := omega) only [go_sem, Int.reduceAdd, Int.reduceSub, Int.reduceMul, e, hw, hpl]); try rfl) ?_ | refine hx_true (by rfl) ?_ | refine hx_seq ?_ | refine hx_region ?_ | refine hx_block ?_ | refine hx_b ?_ | refine hx_skip ?_ | refine F_noU (by rfl) (by rfl) ?_ | refine F_bsl zT1 (by (try simp only [List.map_cons, List.map_nil]); repeat (first | (apply eL1; · exact zT0) | rfl)) (by (try simp only [go_sem]); try rfl) (by first | rfl | exact HL.ints_flat _ | exact HL.bools_flat _) (by rfl) (by rfl) ?_ | refine F_appR zT1 (by rfl) zT0 zT9 (by (try simp (disch := omega) only [go_sem, reduceIte, Nat.reduceEqDiff, Nat.reduceAdd, Nat.reduceMul, e, hw, hpl]); try omega) (by first | exact eO rfl | exact eW rfl) (by (try simp (disch := omega) only [go_sem, reduceIte, Nat.reduceEqDiff, Nat.reduceAdd, Nat.reduceMul, e, hw, hpl]); try rfl) zT1 (by omega) (by unfold maxLen; omega) (by (try simp only [go_sem]); first | omega | decide) (by (try simp (disch := omega) only [go_sem, reduceIte, Nat.reduceEqDiff, Nat.reduceAdd, Nat.reduceMul, e, hw, hpl]); try rfl) (by (try simp only [go_sem]); try rfl) ?_ | refine F_bld (by (try simp only [List.map_cons, List.map_nil]); repeat (first | (apply eP1; · exact zT0) | rfl)) (by simp only [fillAt, setFrom, cellsOf, List.set_cons_zero, List.set_cons_succ]; try rfl) (by simp [notDead]) ?_)
        exact hx_lG [3, 5, 10, 11, 12, 16, 17] (j + 1) hjn (by omega) rfl
      · by_cases h2 : 2 ≤ j + 1
        · by_cases h3 : 2 ≤ n - (j + 1)
          · have e := fin true false (by simp; omega) (by simp [h1])
            repeat (first | refine F_mv zT0 rfl ?_ | refine F_yes (by rfl) (by rfl) ?_ | refine F_nil zT1 ?_ | refine F_lss (by rfl) (by rfl) zT6 ?_ | refine F_eql (by rfl) (by rfl) (by first | exact eqT (by omega) | exact eqF (by omega) | rfl) ?_ | refine F_pickT (by rfl) zT0 ?_ | refine F_pickF (by rfl) zT0 ?_ | refine F_add (by rfl) (by rfl) (by (try simp (disch := omega) only [go_sem, Int.reduceAdd, Int.reduceSub, Int.reduceMul, e, hw, hpl]); try rfl) ?_ | refine hx_true (by rfl) ?_ | refine hx_seq ?_ | refine hx_region ?_ | refine hx_block ?_ | refine hx_b ?_ | refine hx_skip ?_ | refine F_sub (by rfl) (by rfl) (by (try simp (disch := omega) only [go_sem, Int.reduceAdd, Int.reduceSub, Int.reduceMul, e, hw, hpl]); try rfl) ?_ | refine F_geq (by rfl) (by rfl) (by first | exact leT (by omega) | exact leF (by omega) | rfl) ?_ | refine F_bsl zT1 (by (try simp only [List.map_cons, List.map_nil]); repeat (first | (apply eL1; · exact zT0) | rfl)) (by (try simp only [go_sem]); try rfl) (by first | rfl | exact HL.ints_flat _ | exact HL.bools_flat _) (by rfl) (by rfl) ?_ | refine F_appR zT1 (by rfl) zT0 zT9 (by (try simp (disch := omega) only [go_sem, reduceIte, Nat.reduceEqDiff, Nat.reduceAdd, Nat.reduceMul, e, hw, hpl]); try omega) (by first | exact eO rfl | exact eW rfl) (by (try simp (disch := omega) only [go_sem, reduceIte, Nat.reduceEqDiff, Nat.reduceAdd, Nat.reduceMul, e, hw, hpl]); try rfl) zT1 (by omega) (by unfold maxLen; omega) (by (try simp only [go_sem]); first | omega | decide) (by (try simp (disch := omega) only [go_sem, reduceIte, Nat.reduceEqDiff, Nat.reduceAdd, Nat.reduceMul, e, hw, hpl]); try rfl) (by (try simp only [go_sem]); try rfl) ?_ | refine F_bld (by (try simp only [List.map_cons, List.map_nil]); repeat (first | (apply eP1; · exact zT0) | rfl)) (by simp only [fillAt, setFrom, cellsOf, List.set_cons_zero, List.set_cons_succ]; try rfl) (by simp [notDead]) ?_)
            exact hx_lG [3, 5, 10, 11, 12, 16, 17] (j + 1) hjn (by omega) rfl
          · have e := fin false false (by simp; omega) (by simp [h1])
            repeat (first | refine F_mv zT0 rfl ?_ | refine F_yes (by rfl) (by rfl) ?_ | refine F_nil zT1 ?_ | refine F_lss (by rfl) (by rfl) zT6 ?_ | refine F_eql (by rfl) (by rfl) (by first | exact eqT (by omega) | exact eqF (by omega) | rfl) ?_ | refine F_pickT (by rfl) zT0 ?_ | refine F_pickF (by rfl) zT0 ?_ | refine F_add (by rfl) (by rfl) (by (try simp (disch := omega) only [go_sem, Int.reduceAdd, Int.reduceSub, Int.reduceMul, e, hw, hpl]); try rfl) ?_ | refine hx_true (by rfl) ?_ | refine hx_seq ?_ | refine hx_region ?_ | refine hx_block ?_ | refine hx_b ?_ | refine hx_skip ?_ | refine F_sub (by rfl) (by rfl) (by (try simp (disch := omega) only [go_sem, Int.reduceAdd, Int.reduceSub, Int.reduceMul, e, hw, hpl]); try rfl) ?_ | refine F_geq (by rfl) (by rfl) (by first | exact leT (by omega) | exact leF (by omega) | rfl) ?_ | refine F_bsl zT1 (by (try simp only [List.map_cons, List.map_nil]); repeat (first | (apply eL1; · exact zT0) | rfl)) (by (try simp only [go_sem]); try rfl) (by first | rfl | exact HL.ints_flat _ | exact HL.bools_flat _) (by rfl) (by rfl) ?_ | refine F_appR zT1 (by rfl) zT0 zT9 (by (try simp (disch := omega) only [go_sem, reduceIte, Nat.reduceEqDiff, Nat.reduceAdd, Nat.reduceMul, e, hw, hpl]); try omega) (by first | exact eO rfl | exact eW rfl) (by (try simp (disch := omega) only [go_sem, reduceIte, Nat.reduceEqDiff, Nat.reduceAdd, Nat.reduceMul, e, hw, hpl]); try rfl) zT1 (by omega) (by unfold maxLen; omega) (by (try simp only [go_sem]); first | omega | decide) (by (try simp (disch := omega) only [go_sem, reduceIte, Nat.reduceEqDiff, Nat.reduceAdd, Nat.reduceMul, e, hw, hpl]); try rfl) (by (try simp only [go_sem]); try rfl) ?_ | refine F_bld (by (try simp only [List.map_cons, List.map_nil]); repeat (first | (apply eP1; · exact zT0) | rfl)) (by simp only [fillAt, setFrom, cellsOf, List.set_cons_zero, List.set_cons_succ]; try rfl) (by simp [notDead]) ?_)
            exact hx_lG [3, 5, 10, 11, 12, 16, 17] (j + 1) hjn (by omega) rfl
        · have e := fin false false (by simp; omega) (by simp [h1])
          repeat (first | refine F_mv zT0 rfl ?_ | refine F_yes (by rfl) (by rfl) ?_ | refine F_no (by rfl) (by rfl) ?_ | refine F_nil zT1 ?_ | refine F_lss (by rfl) (by rfl) zT6 ?_ | refine F_eql (by rfl) (by rfl) (by first | exact eqT (by omega) | exact eqF (by omega) | rfl) ?_ | refine F_pickF (by rfl) zT0 ?_ | refine F_add (by rfl) (by rfl) (by (try simp (disch := omega) only [go_sem, Int.reduceAdd, Int.reduceSub, Int.reduceMul, e, hw, hpl]); try rfl) ?_ | refine hx_true (by rfl) ?_ | refine hx_seq ?_ | refine hx_region ?_ | refine hx_block ?_ | refine hx_b ?_ | refine hx_skip ?_ | refine F_geq (by rfl) (by rfl) (by first | exact leT (by omega) | exact leF (by omega) | rfl) ?_ | refine F_bsl zT1 (by (try simp only [List.map_cons, List.map_nil]); repeat (first | (apply eL1; · exact zT0) | rfl)) (by (try simp only [go_sem]); try rfl) (by first | rfl | exact HL.ints_flat _ | exact HL.bools_flat _) (by rfl) (by rfl) ?_ | refine F_appR zT1 (by rfl) zT0 zT9 (by (try simp (disch := omega) only [go_sem, reduceIte, Nat.reduceEqDiff, Nat.reduceAdd, Nat.reduceMul, e, hw, hpl]); try omega) (by first | exact eO rfl | exact eW rfl) (by (try simp (disch := omega) only [go_sem, reduceIte, Nat.reduceEqDiff, Nat.reduceAdd, Nat.reduceMul, e, hw, hpl]); try rfl) zT1 (by omega) (by unfold maxLen; omega) (by (try simp only [go_sem]); first | omega | decide) (by (try simp (disch := omega) only [go_sem, reduceIte, Nat.reduceEqDiff, Nat.reduceAdd, Nat.reduceMul, e, hw, hpl]); try rfl) (by (try simp only [go_sem]); try rfl) ?_ | refine F_bld (by (try simp only [List.map_cons, List.map_nil]); repeat (first | (apply eP1; · exact zT0) | rfl)) (by simp only [fillAt, setFrom, cellsOf, List.set_cons_zero, List.set_cons_succ]; try rfl) (by simp [notDead]) ?_)
          exact hx_lG [3, 5, 10, 11, 12, 16, 17] (j + 1) hjn (by omega) rfl
    · obtain rfl : j = n := by omega
      have e : (brk (ls.take i)).length + j = (brk (ls.take (i + 1))).length := by rw [hblk, List.length_append, blk_len]
      have e2 : brk (ls.take i) ++ (blk j).take j = brk (ls.take (i + 1)) := by rw [hblk, List.take_of_length_le (l := blk j) (by rw [blk_len]; omega)]
      repeat (first | refine F_mv zT0 rfl ?_ | refine F_nil zT1 ?_ | refine F_lss (by rfl) (by rfl) zT6 ?_ | refine F_add (by rfl) (by rfl) zT11 ?_ | refine hx_exitS (by rfl) ?_ | refine hx_false (by rfl) ?_ | refine hx_seq ?_ | refine hx_region ?_ | refine hx_b ?_)
      exact hx_lG [3, 10, 11, 12] (i + 1) hil (by omega) (by rw [← e, ← e2]; rfl)
  · obtain rfl : i = ls.length := by omega
    rw [List.take_length]
    repeat (first | refine F_mv zT0 rfl ?_ | refine F_nil zT1 ?_ | refine F_lss (by rfl) (by rfl) zT6 ?_ | refine hx_exitS (by rfl) ?_ | refine hx_false (by rfl) ?_ | refine hx_seq ?_ | refine hx_region ?_)
    refine hx_retF (by (try simp only [List.map_cons, List.map_nil]); repeat (first | (apply eL1; · exact zT0) | rfl)) zT5 zT7 ?_
    rfl

def optI : Option Nat → Int
  | none => -1
  | some q => q
set_option maxHeartbeats 4000000 in
theorem ht_next (A : List (Bool × Bool)) (p h : Nat) (hA : A.length ≤ 300000) (hp : p < A.length) (hh : h ≤ 100000) :
    HT Try.prog 22 [.int .i64 p, .ptr [.int .i64 ((A.length : Int) - 1)] 0, .ptr [.int .i64 h] 0, .ptr [Pl A] 0] (fun r => r = .int .i64 (optI (down A p (min (A.length - 1) (p + h))))) := by
  refine HT.of rfl fc22 (Nat.le_of_ble_eq_true rfl) ?_
  unfold c22
  simp only [Pl, argSlots, Nat.reduceAdd]
  have hmin : (if (p : Int) + (h : Int) < (A.length : Int) - 1 then (p : Int) + (h : Int) else (A.length : Int) - 1) = ((min (A.length - 1) (p + h) : Nat) : Int) := by split <;> omega
  obtain ⟨top, htop⟩ : ∃ t, min (A.length - 1) (p + h) = t := ⟨_, rfl⟩
  have htA : top < A.length := by omega
  rw [htop] at hmin ⊢
  repeat (first | refine F_mv zT0 rfl ?_ | refine F_ldP (by rfl) (by (try simp only [go_sem]); first | omega | decide) (by (try simp (disch := omega) only [go_sem, hmin]); try rfl) ?_ | refine F_nil zT1 ?_ | refine F_add (by rfl) (by rfl) (by (try simp (disch := omega) only [go_sem, Int.reduceAdd, Int.reduceSub, Int.reduceMul, hmin]); try rfl) ?_ | refine hx_seq ?_ | refine hx_region ?_ | refine hx_block ?_ | refine F_mm (by rfl) (by rfl) (by (try simp only [go_sem, reduceIte, hmin]); try rfl) ?_)
  refine hx_loopG [0, 3, 6] (fun q : Nat => q ≤ top ∧ down A p top = down A p q)
    (fun q => ⟨[(0, .int .i64 p), (3, .ptr [.sl A.length (plc A)] 0), (6, .int .i64 q)], [], 0⟩) (fun q => q) top ⟨Nat.le_refl _, rfl⟩ rfl ?_
  rintro q ⟨hq, hd⟩
  by_cases hpq : p < q
  · obtain ⟨g1, -⟩ := plc_get A q (by omega)
    obtain ⟨-, g2⟩ := plc_get A p hp
    have g1' : (plc A).getD (q * 2 + 0) .dead = .bool (A.getD q (false, false)).1 := g1
    have hpl := plc_len A
    obtain ⟨q', rfl⟩ : ∃ q', q = q' + 1 := ⟨q - 1, by omega⟩
    have hdq : down A p (q' + 1) = if okAt A p (q' + 1) then some (q' + 1) else down A p q' := by
      rw [down, if_neg (by omega)]
    have stop : okAt A p (q' + 1) = true → down A p top = some (q' + 1) := fun e => by rw [hd, hdq, if_pos e]
    have go_on : okAt A p (q' + 1) = false → down A p top = down A p q' := fun e => by rw [hd, hdq, e]; rfl
    have hcast : (((q' + 1 : Nat) : Int)) - 1 = (q' : Int) := by omega
    cases h1 : (A.getD (q' + 1) (false, false)).1 with
    | false =>
      rw [h1] at g1' g1
      have := go_on (by unfold okAt; rw [h1]; rfl)
      repeat (first | refine F_mv zT0 rfl ?_ | refine F_no (by rfl) (by rfl) ?_ | refine F_iaS (by rfl) (by rfl) (by omega) zT1 ?_ | refine F_ldP (by rfl) (by (try simp only [go_sem]); first | omega | decide) (by (try simp (disch := omega) only [go_sem, g1, g1', hcast]); try rfl) ?_ | refine F_nil zT1 ?_ | refine F_pickF (by rfl) zT0 ?_ | refine hx_true (by rfl) ?_ | refine hx_false (by rfl) ?_ | refine hx_seq ?_ | refine hx_region ?_ | refine hx_block ?_ | refine hx_b ?_ | refine hx_skip ?_ | refine F_noU (by rfl) (by rfl) ?_ | refine F_sub (by rfl) (by rfl) (by (try simp (disch := omega) only [go_sem, Int.reduceAdd, Int.reduceSub, Int.reduceMul, g1, g1', hcast]); try rfl) ?_ | refine F_gtr (by rfl) (by rfl) zT6 ?_ | refine F_faP (by rfl) (by rfl) ?_)
      exact hx_lG [0, 3, 6] q' ⟨by omega, this⟩ (by omega) rfl
    | true =>
      rw [h1] at g1' g1
      by_cases h2 : p + 1 < q' + 1
      · have := stop (by unfold okAt; rw [h1, decide_eq_true h2]; rfl)
        repeat (first | refine F_mv zT0 rfl ?_ | refine F_yes (by rfl) (by rfl) ?_ | refine F_no (by rfl) (by rfl) ?_ | refine F_iaS (by rfl) (by rfl) (by omega) zT1 ?_ | refine F_ldP (by rfl) (by (try simp only [go_sem]); first | omega | decide) (by (try simp (disch := omega) only [go_sem, g1, g1']); try rfl) ?_ | refine F_nil zT1 ?_ | refine F_pickT (by rfl) zT0 ?_ | refine F_add (by rfl) (by rfl) (by (try simp (disch := omega) only [go_sem, Int.reduceAdd, Int.reduceSub, Int.reduceMul, g1, g1']); try rfl) ?_ | refine hx_true (by rfl) ?_ | refine hx_seq ?_ | refine hx_region ?_ | refine hx_block ?_ | refine hx_skip ?_ | refine F_gtr (by rfl) (by rfl) zT6 ?_ | refine F_faP (by rfl) (by rfl) ?_)
        refine hx_retF (by (try simp only [List.map_cons, List.map_nil]); repeat (first | (apply eL1; · exact zT0) | rfl)) zT5 zT7 ?_
        rw [this]; rfl
      · cases h3 : (A.getD p (false, false)).2 with
        | true =>
          rw [h3] at g2
          have := stop (by unfold okAt; rw [h1, h3]; simp)
          repeat (first | refine F_mv zT0 rfl ?_ | refine F_yes (by rfl) (by rfl) ?_ | refine F_iaS (by rfl) (by rfl) (by omega) zT1 ?_ | refine F_ldP (by rfl) (by (try simp only [go_sem]); first | omega | decide) (by (try simp (disch := omega) only [go_sem, g1, g1', g2]); try rfl) ?_ | refine F_nil zT1 ?_ | refine F_pickT (by rfl) zT0 ?_ | refine F_pickF (by rfl) zT0 ?_ | refine F_add (by rfl) (by rfl) (by (try simp (disch := omega) only [go_sem, Int.reduceAdd, Int.reduceSub, Int.reduceMul, g1, g1', g2]); try rfl) ?_ | refine hx_true (by rfl) ?_ | refine hx_seq ?_ | refine hx_region ?_ | refine hx_block ?_ | refine hx_skip ?_ | refine F_gtr (by rfl) (by rfl) zT6 ?_ | refine F_faP (by rfl) (by rfl) ?_)
          refine hx_retF (by (try simp only [List.map_cons, List.map_nil]); repeat (first | (apply eL1; · exact zT0) | rfl)) zT5 zT7 ?_
          rw [this]; rfl
        | false =>
          rw [h3] at g2
          have := go_on (by unfold okAt; rw [h1, h3, decide_eq_false h2]; rfl)
          repeat (first | refine F_mv zT0 rfl ?_ | refine F_yes (by rfl) (by rfl) ?_ | refine F_iaS (by rfl) (by rfl) (by omega) zT1 ?_ | refine F_ldP (by rfl) (by (try simp only [go_sem]); first | omega | decide) (by (try simp (disch := omega) only [go_sem, g1, g1', g2, hcast]); try rfl) ?_ | refine F_nil zT1 ?_ | refine F_pickT (by rfl) zT0 ?_ | refine F_pickF (by rfl) zT0 ?_ | refine F_add (by rfl) (by rfl) (by (try simp (disch := omega) only [go_sem, Int.reduceAdd, Int.reduceSub, Int.reduceMul, g1, g1', g2, hcast]); try rfl) ?_ | refine hx_true (by rfl) ?_ | refine hx_false (by rfl) ?_ | refine hx_seq ?_ | refine hx_region ?_ | refine hx_block ?_ | refine hx_b ?_ | refine hx_skip ?_ | refine F_sub (by rfl) (by rfl) (by (try simp (disch := omega) only [go_sem, Int.reduceAdd, Int.reduceSub, Int.reduceMul, g1, g1', g2, hcast]); try rfl) ?_ | refine F_gtr (by rfl) (by rfl) zT6 ?_ | refine F_faP (by rfl) (by rfl) ?_)
          exact hx_lG [0, 3, 6] q' ⟨by omega, this⟩ (by omega) rfl
  · rw [down_none (Nat.le_of_not_lt hpq)] at hd
    repeat (first | refine F_mv zT0 rfl ?_ | refine F_nil zT1 ?_ | refine hx_exitS (by rfl) ?_ | refine hx_false (by rfl) ?_ | refine hx_seq ?_ | refine hx_region ?_ | refine F_gtr (by rfl) (by rfl) zT6 ?_)
    refine hx_retF (by (try simp only [List.map_cons, List.map_nil]); repeat (first | (apply eL1; · exact zT0) | rfl)) zT5 zT7 ?_
    rw [hd]; rfl

def cutV : Option (List Nat) → HV
  | none => .tup [.osl 1 0 [], .bool false]
  | some l => .tup [.osl 1 l.length (HL.ints (nl l)), .bool true]
theorem cuts_lt {A : List (Bool × Bool)} {h k p : Nat} (hp : p < A.length - 1) : cuts A h k p = match down A p (min (A.length - 1) (p + h)) with
    | none => none
    | some q => match k with
      | 0 => none
      | k + 1 => (cuts A h k q).map (q :: ·) := by
  cases k with
  | zero => unfold cuts; rw [if_neg (by omega)]; split <;> rfl
  | succ k => rw [cuts, if_neg (by omega)]; cases down A p (min (A.length - 1) (p + h)) <;> rfl
theorem cuts_ge {A : List (Bool × Bool)} {h k p : Nat} (hp : A.length - 1 ≤ p) : cuts A h k p = some [] := by
  cases k with
  | zero => unfold cuts; rw [if_pos hp]
  | succ k => rw [cuts, if_pos hp]

set_option maxHeartbeats 8000000 in
theorem ht_colcut (A : List (Bool × Bool)) (from_ h most : Nat) (hA : A.length ≤ 300000) (hA0 : 0 < A.length) (hf : from_ < A.length) (hh : h ≤ 100000) (hm : most ≤ 100000) :
    HT Try.prog 14 [Pl A, .int .i64 from_, .int .i64 h, .int .i64 most] (fun r => r = cutV (cuts A h most from_)) := by
  refine HT.of rfl fc14 (Nat.le_of_ble_eq_true rfl) ?_
  unfold c14
  simp only [Pl, argSlots, Nat.reduceAdd]
  repeat (first | refine F_mv zT0 rfl ?_ | refine F_ldR (by rfl) (by first | exact eO rfl | exact eW rfl) (by (try simp only [go_sem]); try rfl) (by (try simp only [go_sem]); first | omega | decide) (by (try simp (disch := omega) only [go_sem]); try rfl) zT0 ?_ | refine F_nil zT1 ?_ | refine F_lenS (by rfl) ?_ | refine hx_seq ?_ | refine hx_region ?_ | refine F_mvnil rfl (by rfl) zT1 ?_ | refine F_sub (by rfl) (by rfl) zT11 ?_ | refine F_st (by rfl) zT0 (by (try simp only [go_sem]); try rfl) (by first | rfl | exact HL.ints_flat _ | exact HL.bools_flat _) (by rfl) (by decide) (by first | exact eO rfl | exact eW rfl) (by (try simp only [go_sem]); try rfl) (by (try simp only [go_sem]); first | omega | decide) (by (try simp (disch := omega) only [go_sem]); try rfl) (by (try simp only [go_sem]); try rfl) ?_ | refine F_newv zT1 zT0 (by (try simp only [go_sem]); try rfl) (by first | rfl | exact HL.ints_flat _ | exact HL.bools_flat _) (by rfl) ?_ | refine F_newz zT1 ?_)
  refine F_mkfn (by (try simp only [List.map_cons, List.map_nil]); repeat (first | (apply eL1; · exact zT0) | rfl)) ?_
  repeat (first | refine F_mv zT0 rfl ?_ | refine F_nil zT1 ?_ | refine hx_seq ?_ | refine hx_region ?_ | refine hx_block ?_ | refine F_mvnil rfl (by rfl) zT1 ?_)
  refine hx_loopG [3, 10, 11, 12, 13] (fun s : List Nat × Nat × Nat => s.2.1 < A.length ∧ s.1.length + s.2.2 = most ∧ cuts A h most from_ = (cuts A h s.2.2 s.2.1).map (s.1 ++ ·))
    (fun s => ⟨[(3, .int .i64 most), (10, .pref 0 [] 0), (11, .fn 22 [.pref 0 [] 0, .pref 1 [] 0, .pref 2 [] 0]), (12, .ref 3 [] 1 0 s.1.length), (13, .int .i64 s.2.1)], [(0, .optr [.int .i64 ((A.length : Int) - 1)]), (1, .optr [.int .i64 h]), (2, .optr [.sl A.length (plc A)]), (3, .osl 1 s.1.length (HL.ints (nl s.1)))], 4⟩)
    (fun s => A.length - s.2.1) ([], from_, most) ⟨hf, by simp, by simp⟩ rfl ?_
  rintro ⟨out, p, k⟩ ⟨hp, hk, hc⟩
  simp only at hp hk hc ⊢
  have hol := nl_len out
  by_cases hpe : p < A.length - 1
  · rw [cuts_lt hpe] at hc
    have hn := ht_next A p h hA hp hh
    simp only [Pl] at hn
    repeat (first | refine F_mv zT0 rfl ?_ | refine F_ldR (by rfl) (by first | exact eO rfl | exact eW rfl) (by (try simp only [go_sem]); try rfl) (by (try simp only [go_sem]); first | omega | decide) (by (try simp (disch := omega) only [go_sem]); try rfl) zT0 ?_ | refine F_nil zT1 ?_ | refine F_lss (by rfl) (by rfl) zT6 ?_ | refine hx_true (by rfl) ?_ | refine hx_seq ?_ | refine hx_region ?_ | refine hx_block ?_ | refine hx_skip ?_)
    refine F_callv (by rfl) (by (try simp only [List.map_cons, List.map_nil]); repeat (first | (apply eL1; · exact zT0) | rfl)) (by simp (disch := omega) only [thawL, plc_strip, HV.thaw, allIds, aget, nget, if_true, if_false, reduceIte, Nat.reduceEqDiff, stripL, HV.strip, win_intsE, win_boolsE, Nat.mul_one, List.cons_append, List.nil_append, List.append_nil, I, Bl, T3, List.getD_cons_zero, List.getD_cons_succ, HL.ints_strip, HL.bools_strip, trip_strip]; try rfl) (hn) ?_
    rintro _ rfl
    refine ⟨(by simp only [refFreeL, HV.refFree, noRdL, HV.noRd, HL.ints_noRd, HL.bools_noRd, trip_noRd, Bool.or_true, Bool.true_or, Bool.or_false, Bool.false_or, Bool.and_true, Bool.true_and, Bool.and_self, List.isEmpty_nil, beq_self_eq_true, List.cons_append, List.nil_append]), _, _, _, _, _, zT4, (by decide), (by simp only [upF, upS]; try rfl), ?_⟩
    cases hd : down A p (min (A.length - 1) (p + h)) with
    | none =>
      rw [hd] at hc
      simp only [optI]
      repeat (first | refine F_mv zT0 rfl ?_ | refine F_no (by rfl) (by rfl) ?_ | refine F_nil zT1 ?_ | refine F_lss (by rfl) (by rfl) zT6 ?_ | refine F_pickT (by rfl) zT0 ?_ | refine hx_true (by rfl) ?_ | refine hx_seq ?_ | refine hx_region ?_ | refine F_mvnil rfl (by rfl) zT1 ?_)
      refine hx_retF (by (try simp only [List.map_cons, List.map_nil]); repeat (first | (apply eL1; · exact zT0) | rfl)) zT5 zT7 ?_
      rw [hc]; rfl
    | some q =>
      rw [hd] at hc
      have hq := down_le hd
      have hq2 : q ≤ A.length - 1 := by have := hq.2.1; omega
      simp only [optI]
      cases k with
      | zero =>
        simp only at hc
        have hol : out.length = most := by omega
        repeat (first | refine F_mv zT0 rfl ?_ | refine F_yes (by rfl) (by rfl) ?_ | refine F_nil zT1 ?_ | refine F_lss (by rfl) (by rfl) zT6 ?_ | refine F_eql (by rfl) (by rfl) (by first | exact eqT (by omega) | exact eqF (by omega) | rfl) ?_ | refine F_pickF (by rfl) zT0 ?_ | refine F_lenR (by rfl) ?_ | refine hx_true (by rfl) ?_ | refine hx_seq ?_ | refine hx_region ?_ | refine F_mvnil rfl (by rfl) zT1 ?_)
        refine hx_retF (by (try simp only [List.map_cons, List.map_nil]); repeat (first | (apply eL1; · exact zT0) | rfl)) zT5 zT7 ?_
        rw [hc]; rfl
      | succ k =>
        simp only [Option.map_map] at hc
        repeat (first | refine F_mv zT0 rfl ?_ | refine F_yes (by rfl) (by rfl) ?_ | refine F_nil zT1 ?_ | refine F_lss (by rfl) (by rfl) zT6 ?_ | refine F_eql (by rfl) (by rfl) (by first | exact eqT (by omega) | exact eqF (by omega) | rfl) ?_ | refine F_pickF (by rfl) zT0 ?_ | refine F_lenR (by rfl) ?_ | refine hx_false (by rfl) ?_ | refine hx_seq ?_ | refine hx_region ?_ | refine hx_b ?_ | refine hx_skip ?_ | refine F_bsl zT1 (by (try simp only [List.map_cons, List.map_nil]); repeat (first | (apply eL1; · exact zT0) | rfl)) (by (try simp only [go_sem]); try rfl) (by first | rfl | exact HL.ints_flat _ | exact HL.bools_flat _) (by rfl) (by rfl) ?_ | refine F_appR zT1 (by rfl) zT0 zT9 (by (try simp (disch := omega) only [go_sem, reduceIte, Nat.reduceEqDiff, Nat.reduceAdd, Nat.reduceMul, nl_snoc]); try omega) (by first | exact eO rfl | exact eW rfl) (by (try simp (disch := omega) only [go_sem, reduceIte, Nat.reduceEqDiff, Nat.reduceAdd, Nat.reduceMul, nl_snoc]); try rfl) zT1 (by omega) (by unfold maxLen; omega) (by (try simp only [go_sem]); first | omega | decide) (by (try simp (disch := omega) only [go_sem, reduceIte, Nat.reduceEqDiff, Nat.reduceAdd, Nat.reduceMul, nl_snoc]); try rfl) (by (try simp only [go_sem]); try rfl) ?_)
        refine hx_lG [3, 10, 11, 12, 13] (out ++ [q], q, k) ⟨by simp only; omega, by simp only [List.length_append, List.length_cons, List.length_nil]; omega, ?_⟩ (by simp only; omega) (by simp only [List.length_append, List.length_cons, List.length_nil, Nat.zero_add]; rfl)
        rw [hc]
        congr 1
        funext l
        simp
  · rw [cuts_ge (p := p) (k := k) (by omega)] at hc
    repeat (first | refine F_mv zT0 rfl ?_ | refine F_ldR (by rfl) (by first | exact eO rfl | exact eW rfl) (by (try simp only [go_sem]); try rfl) (by (try simp only [go_sem]); first | omega | decide) (by (try simp (disch := omega) only [go_sem]); try rfl) zT0 ?_ | refine F_nil zT1 ?_ | refine F_lss (by rfl) (by rfl) zT6 ?_ | refine hx_exitS (by rfl) ?_ | refine hx_false (by rfl) ?_ | refine hx_seq ?_ | refine hx_region ?_)
    refine hx_retF (by (try simp only [List.map_cons, List.map_nil]); repeat (first | (apply eL1; · exact zT0) | rfl)) zT5 zT7 ?_
    rw [hc]
    simp [cutV, tupOf]
end Go.Proofs.Ytpffacaeonccpaa
