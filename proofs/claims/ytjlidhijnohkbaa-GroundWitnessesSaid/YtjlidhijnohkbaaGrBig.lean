/-
  OWN WORK. The reference's generator of graphs in the value language.
-/
import Derived.Test.YtjlidhijnohkbaaGrU
import Derived.Test.YtjlidhijnohkbaaGrPut
set_option linter.unusedSimpArgs false
set_option linter.unusedVariables false
namespace Go.Proofs.Ytjlidhijnohkbaa
open Go.RowKit Go.HL

theorem gtmod_bd (n m : Int) (hm : 0 < m) : -m < n.tmod m ∧ n.tmod m < m := ⟨Int.lt_tmod_of_pos n hm, Int.tmod_lt_of_pos n hm⟩
theorem gtmod (n m : Int) (hm : 0 < m) : (n.tmod m + m).tmod m = n % m := by
  have h1 := (gtmod_bd n m hm).1
  rw [Int.tmod_eq_emod_of_nonneg (by omega), Int.add_emod_right, Int.tmod_eq_emod]
  split
  · simp
  · have e : (m.natAbs : Int) = m := Int.natAbs_of_nonneg (by omega)
    rw [e]
    have := Int.add_emod_right (n % m - m) m
    rw [← this]; simp

theorem ht_gmod (n m : Int) (hm : 0 < m) (hb : m ≤ 1000000) : HT Try.prog 13 [.int .i64 n, .int .i64 m] (fun r => r = .int .i64 (n % m)) := by
  refine HT.of rfl fc13 (Nat.le_of_ble_eq_true rfl) ?_
  unfold c13
  simp only [argSlots, Nat.reduceAdd]
  have h1 := gtmod_bd n m hm
  have h2 := gtmod n m hm
  repeat (first | refine F_mv zT0 rfl ?_ | refine F_nil zT1 ?_ | refine F_add (by rfl) (by rfl) (by (try simp (disch := omega) only [go_sem, Int.reduceAdd, Int.reduceSub, Int.reduceMul, h2]); try rfl) ?_ | refine hx_false (by rfl) ?_ | refine hx_seq ?_ | refine hx_region ?_ | refine hx_skip ?_ | refine F_rem (by rfl) (by rfl) (by omega) (by (try simp (disch := omega) only [go_sem, Int.reduceAdd, Int.reduceSub, Int.reduceMul, h2]); try rfl) ?_ | refine F_leq (by rfl) (by rfl) (by first | exact leT (by omega) | exact leF (by omega) | rfl) ?_)
  refine hx_retF (by (try simp only [List.map_cons, List.map_nil]); repeat (first | (apply eL1; · exact zT0) | rfl)) zT5 zT7 ?_
  simp [tupOf]
set_option maxHeartbeats 1000000 in
theorem ht_gnum (l : List Int) (i : Int) (h0 : 0 ≤ i) (hi : i ≤ 100000) (hl : l.length ≤ 9223372036854775807) : HT Try.prog 32 [I l, .int .i64 i] (fun r => ∃ x, r = .int .i64 x ∧ -2000000 ≤ x ∧ x ≤ 2000000) := by
  refine HT.of rfl fc32 (Nat.le_of_ble_eq_true rfl) ?_
  unfold c32
  simp only [I, argSlots, Nat.reduceAdd]
  by_cases he : l.length = 0
  · repeat (first | refine F_mv zT0 rfl ?_ | refine F_nil zT1 ?_ | refine F_eql (by rfl) (by rfl) (by first | exact eqT (by omega) | exact eqF (by omega) | rfl) ?_ | refine F_lenS (by rfl) ?_ | refine hx_true (by rfl) ?_ | refine hx_seq ?_ | refine hx_region ?_)
    refine hx_retF (by (try simp only [List.map_cons, List.map_nil]); repeat (first | (apply eL1; · exact zT0) | rfl)) zT5 zT7 ?_
    exact ⟨0, by simp [tupOf], by omega, by omega⟩
  · have a1 : i.tmod l.length = i % l.length := Int.tmod_eq_emod_of_nonneg h0
    have a2 : i.tdiv l.length = i / l.length := Int.tdiv_eq_ediv_of_nonneg h0
    have a3 : 0 ≤ i % l.length := Int.emod_nonneg _ (by omega)
    have a4 : i % l.length < l.length := Int.emod_lt_of_pos _ (by omega)
    have a5 : 0 ≤ i / l.length := Int.ediv_nonneg h0 (by omega)
    have a6 : i / l.length ≤ i := Int.ediv_le_self _ h0
    have a7 := gtmod_bd (l.getD (i % l.length).toNat 0) 1048576 (by omega)
    repeat (first | refine F_mv zT0 rfl ?_ | refine F_nil zT1 ?_ | refine F_eql (by rfl) (by rfl) (by first | exact eqT (by omega) | exact eqF (by omega) | rfl) ?_ | refine F_lenS (by rfl) ?_ | refine hx_false (by rfl) ?_ | refine hx_seq ?_ | refine hx_region ?_ | refine hx_skip ?_)
    refine hx_draw (by kernel_rfl) (by kernel_rfl) (fun _ _ _ => False) ?_
    generalize hq : i / (l.length : Int) = q at a2 a5 a6
    generalize hp : i % (l.length : Int) = p at a1 a3 a4 a7
    repeat (first | refine F_mv zT0 rfl ?_ | refine F_iaS (by rfl) (by rfl) (by omega) zT1 ?_ | refine F_ldP (by rfl) (by (try simp only [go_sem]); first | omega | decide) (by (try simp (disch := omega) only [go_sem, a1, a2]); try rfl) ?_ | refine F_nil zT1 ?_ | refine F_add (by rfl) (by rfl) (by (try simp (disch := omega) only [go_sem, Int.reduceAdd, Int.reduceSub, Int.reduceMul, a1, a2]); try rfl) ?_ | refine F_lenS (by rfl) ?_ | refine F_mul (by rfl) (by rfl) (by (try simp (disch := omega) only [go_sem, Int.reduceAdd, Int.reduceSub, Int.reduceMul, a1, a2]); try rfl) ?_ | refine F_quo (by rfl) (by rfl) (by omega) (by (try simp (disch := omega) only [go_sem, Int.reduceAdd, Int.reduceSub, Int.reduceMul, a1, a2]); try rfl) ?_ | refine F_rem (by rfl) (by rfl) (by omega) (by (try simp (disch := omega) only [go_sem, Int.reduceAdd, Int.reduceSub, Int.reduceMul, a1, a2]); try rfl) ?_)
    refine hx_retF (by (try simp only [List.map_cons, List.map_nil]); repeat (first | (apply eL1; · exact zT0) | rfl)) zT5 zT7 ?_
    exact ⟨_, rfl, by omega, by omega⟩

/-- An increasing list with a further number. -/
def putN : List Nat → Nat → List Nat
  | [], v => [v]
  | a :: r, v => if v < a then v :: a :: r else if v = a then a :: r else a :: putN r v
theorem putN_mem (l : List Nat) (v x : Nat) : x ∈ putN l v ↔ x = v ∨ x ∈ l := by
  induction l with
  | nil => simp [putN]
  | cons a r ih =>
    unfold putN
    split
    · simp
    · split
      · rename_i h; subst h; simp
      · simp only [List.mem_cons, ih]
        constructor
        · rintro (h | h | h)
          · exact .inr (.inl h)
          · exact .inl h
          · exact .inr (.inr h)
        · rintro (h | h | h)
          · exact .inr (.inl h)
          · exact .inl h
          · exact .inr (.inr h)
theorem putN_sorted {l : List Nat} (v : Nat) (h : l.Pairwise (· < ·)) : (putN l v).Pairwise (· < ·) := by
  induction l with
  | nil => simp [putN]
  | cons a r ih =>
    obtain ⟨h1, h2⟩ := List.pairwise_cons.1 h
    unfold putN
    split
    · rename_i hva
      refine List.pairwise_cons.2 ⟨fun x hx => ?_, h⟩
      rcases List.mem_cons.1 hx with rfl | hx
      · exact hva
      · have := h1 x hx; omega
    · split
      · exact h
      · refine List.pairwise_cons.2 ⟨fun x hx => ?_, ih h2⟩
        rcases (putN_mem r v x).1 hx with rfl | hx
        · omega
        · exact h1 x hx
theorem putN_len (l : List Nat) (v : Nat) : (putN l v).length ≤ l.length + 1 := by
  induction l with
  | nil => simp [putN]
  | cons a r ih => unfold putN; split <;> (try split) <;> simp <;> omega
theorem putStep_true (v : Int) : ∀ (l : List Int) (acc : List Int), (∀ x ∈ l, v < x) → l.foldl (putStep v) (acc, true) = (acc ++ l, true) := by
  intro l
  induction l with
  | nil => intro acc _; simp
  | cons a r ih =>
    intro acc h
    have ha := h a (by simp)
    rw [List.foldl_cons]
    have e : putStep v (acc, true) a = (acc ++ [a], true) := by simp [putStep, show ¬ a = v by omega]
    rw [e, ih _ fun x hx => h x (by simp [hx])]
    simp
theorem putStep_put (v : Nat) : ∀ (l : List Nat) (acc : List Int), l.Pairwise (· < ·) → (let p := (nl l).foldl (putStep v) (acc, false); if p.2 then p.1 else p.1 ++ [(v : Int)]) = acc ++ nl (putN l v) := by
  intro l
  induction l with
  | nil => intro acc _; simp [nl, putN]
  | cons a r ih =>
    intro acc h
    obtain ⟨h1, h2⟩ := List.pairwise_cons.1 h
    have e : nl (a :: r) = (a : Int) :: nl r := rfl
    rw [e, List.foldl_cons]
    by_cases hva : v ≤ a
    · have hr : ∀ x ∈ nl r, (v : Int) < x := fun x hx => by
        obtain ⟨y, hy, rfl⟩ := List.mem_map.1 hx
        have := h1 y hy
        show (v : Int) < (y : Int)
        omega
      have e2 : putStep v (acc, false) (a : Int) = (acc ++ [(v : Int)] ++ (if v = a then [] else [(a : Int)]), true) := by
        simp only [putStep]
        rw [if_pos ⟨trivial, by omega⟩]
        have e3 : decide ((v : Int) ≤ (a : Int)) = true := by simp; omega
        rw [e3]
        by_cases hh : v = a
        · rw [if_pos (by omega), if_pos hh]; rfl
        · rw [if_neg (by omega), if_neg hh]; rfl
      rw [e2, putStep_true _ _ _ hr]
      have ep : putN (a :: r) v = if v < a then v :: a :: r else if v = a then a :: r else a :: putN r v := rfl
      rw [ep]
      by_cases hh : v = a
      · subst hh; simp [nl]
      · rw [if_neg hh, if_pos (show v < a by omega)]; simp [nl]
    · have e2 : putStep v (acc, false) (a : Int) = (acc ++ [(a : Int)], false) := by
        simp only [putStep]
        rw [if_neg (fun h => by omega), if_neg (by omega)]
        have e3 : decide ((v : Int) ≤ (a : Int)) = false := by simp; omega
        rw [e3]; simp
      rw [e2, ih _ h2]
      have ep : putN (a :: r) v = if v < a then v :: a :: r else if v = a then a :: r else a :: putN r v := rfl
      rw [ep, if_neg (show ¬ v < a by omega), if_neg (show ¬ v = a by omega)]
      simp [nl]
theorem putL_nl {l : List Nat} (v : Nat) (h : l.Pairwise (· < ·)) : putL (nl l) v = nl (putN l v) := by
  have := putStep_put v l [] h
  unfold putL putTo
  rw [List.take_length]
  simpa using this
theorem ht_gput (l : List Nat) (v : Nat) (hl : l.length ≤ 1000) (hs : l.Pairwise (· < ·)) : HT Try.prog 30 [I (nl l), .int .i64 v] (fun r => r = .osl 1 (putN l v).length (HL.ints (nl (putN l v)))) := by
  have := ht_put (nl l) v (by rw [nl_len]; omega)
  rw [putL_nl v hs, nl_len] at this
  exact this

/-- A graph that grows. -/
structure Gx (n : Nat) (nd : List (List Nat)) (bad : List Bool) : Prop where
  bads : bad.length = nd.length
  lt : ∀ i j, j ∈ nd.getD i [] → j < n
  sorted : ∀ i, (nd.getD i []).Pairwise (· < ·)
  few : ∀ i, (nd.getD i []).length ≤ 3
theorem getD_snoc {α : Type} (l : List α) (x : α) (i : Nat) (d : α) : (l ++ [x]).getD i d = if i = l.length then x else l.getD i d := by
  by_cases h : i < l.length
  · rw [if_neg (by omega)]; simp [List.getElem?_append_left h]
  · by_cases h2 : i = l.length
    · subst h2; simp
    · rw [if_neg h2]; simp [List.getElem?_eq_none (show l.length ≤ i by omega), List.getElem?_eq_none (show (l ++ [x]).length ≤ i by simp; omega)]
theorem Gx.snoc {n : Nat} {nd : List (List Nat)} {bad : List Bool} (g : Gx n nd bad) {x : List Nat} (b : Bool) (h1 : ∀ j ∈ x, j < n) (h2 : x.Pairwise (· < ·)) (h3 : x.length ≤ 3) : Gx n (nd ++ [x]) (bad ++ [b]) := by
  refine ⟨by simp [g.bads], fun i j hj => ?_, fun i => ?_, fun i => ?_⟩
  · rw [getD_snoc] at hj
    split at hj
    · exact h1 j hj
    · exact g.lt i j hj
  · rw [getD_snoc]; split; exact h2; exact g.sorted i
  · rw [getD_snoc]; split; exact h3; exact g.few i

set_option maxHeartbeats 8000000 in
theorem ht_gbig (l : List Int) (n : Nat) (hn : n ≤ 256) (hl : l.length ≤ 9223372036854775807) : HT Try.prog 12 [I l, .int .i64 n] (fun r => ∃ nd bad, r = .tup [.osl 1 n (rowsO nd), .osl 1 n (HL.bools bad)] ∧ nd.length = n ∧ Gr nd bad ∧ ∀ i, (nd.getD i []).length ≤ 3) := by
  refine HT.of rfl fc12 (Nat.le_of_ble_eq_true rfl) ?_
  unfold c12
  simp only [I, argSlots, Nat.reduceAdd]
  repeat (first | refine F_mv zT0 rfl ?_ | refine F_nil zT1 ?_ | refine hx_seq ?_ | refine hx_region ?_ | refine hx_block ?_ | refine F_mvnil rfl (by rfl) zT1 ?_)
  refine hx_loopG [0, 1, 6, 7, 8] (fun s : Nat × List (List Nat) × List Bool => s.1 ≤ n ∧ s.2.1.length = s.1 ∧ Gx n s.2.1 s.2.2)
    (fun s => ⟨[(0, .sl l.length (HL.ints l)), (1, .int .i64 n), (6, .ref 0 [] 1 0 s.1), (7, .ref 1 [] 1 0 s.1), (8, .int .i64 s.1)], [(0, .osl 1 s.1 (rowsO s.2.1)), (1, .osl 1 s.1 (HL.bools s.2.2))], 2⟩)
    (fun s => n - s.1) (0, [], []) ⟨by simp, rfl, ⟨rfl, by simp, by simp, by simp⟩⟩ rfl ?_
  rintro ⟨i, nd, bad⟩ ⟨hi, hnd, g⟩
  simp only at hi hnd g ⊢
  have hbl := g.bads
  by_cases hin : i < n
  · repeat (first | refine F_mv zT0 rfl ?_ | refine F_yes (by rfl) (by rfl) ?_ | refine F_nil zT1 ?_ | refine F_lss (by rfl) (by rfl) zT6 ?_ | refine F_pickT (by rfl) zT0 ?_ | refine hx_true (by rfl) ?_ | refine hx_seq ?_ | refine hx_region ?_ | refine hx_block ?_ | refine hx_skip ?_ | refine F_mvnil rfl (by rfl) zT1 ?_ | refine F_mul (by rfl) (by rfl) zT11 ?_)
    refine F_call (by (try simp only [List.map_cons, List.map_nil]); repeat (first | (apply eL1; · exact zT0) | rfl)) (by simp (disch := omega) only [thawL, HV.thaw, allIds, aget, nget, if_true, if_false, reduceIte, Nat.reduceEqDiff, stripL, HV.strip, win_intsE, win_boolsE, Nat.mul_one, List.cons_append, List.nil_append, List.append_nil, I, Bl, T3, List.getD_cons_zero, List.getD_cons_succ, HL.ints_strip, HL.bools_strip, trip_strip]; try rfl) (ht_gnum l (5 * i) (by omega) (by omega) hl) ?_
    rintro _ ⟨x, rfl, hx1, hx2⟩
    refine ⟨(by simp only [refFreeL, HV.refFree, noRdL, HV.noRd, HL.ints_noRd, HL.bools_noRd, trip_noRd, Bool.or_true, Bool.true_or, Bool.or_false, Bool.false_or, Bool.and_true, Bool.true_and, Bool.and_self, List.isEmpty_nil, beq_self_eq_true, List.cons_append, List.nil_append]), _, _, _, _, _, zT4, (by decide), (by simp only [upF, upS]; try rfl), ?_⟩
    skip
    refine F_call (by (try simp only [List.map_cons, List.map_nil]); repeat (first | (apply eL1; · exact zT0) | rfl)) (by simp (disch := omega) only [thawL, HV.thaw, allIds, aget, nget, if_true, if_false, reduceIte, Nat.reduceEqDiff, stripL, HV.strip, win_intsE, win_boolsE, Nat.mul_one, List.cons_append, List.nil_append, List.append_nil, I, Bl, T3, List.getD_cons_zero, List.getD_cons_succ, HL.ints_strip, HL.bools_strip, trip_strip]; try rfl) (ht_gmod x 4 (by omega) (by omega)) ?_
    rintro _ rfl
    have hm0 := Int.emod_nonneg x (show (4 : Int) ≠ 0 by omega)
    have hm1 := Int.emod_lt_of_pos x (show (0 : Int) < 4 by omega)
    obtain ⟨many, hmany⟩ : ∃ m : Nat, (m : Int) = x % 4 := ⟨(x % 4).toNat, by omega⟩
    rw [← hmany] at hm0 hm1 ⊢
    refine ⟨(by simp only [refFreeL, HV.refFree, noRdL, HV.noRd, HL.ints_noRd, HL.bools_noRd, trip_noRd, Bool.or_true, Bool.true_or, Bool.or_false, Bool.false_or, Bool.and_true, Bool.true_and, Bool.and_self, List.isEmpty_nil, beq_self_eq_true, List.cons_append, List.nil_append]), _, _, _, _, _, zT4, (by decide), (by simp only [upF, upS]; try rfl), ?_⟩
    clear hmany hx1 hx2
    repeat (first | refine F_mv zT0 rfl ?_ | refine F_nil zT1 ?_ | refine hx_seq ?_ | refine hx_region ?_ | refine hx_block ?_)
    refine hx_loopG [0, 1, 6, 7, 8, 9, 10, 11] (fun s : Nat × Nat × List Nat => s.1 ≤ many ∧ s.2.2.length = s.2.1 ∧ s.2.1 ≤ s.1 ∧ (∀ j ∈ s.2.2, j < n) ∧ s.2.2.Pairwise (· < ·))
      (fun s => ⟨[(0, .sl l.length (HL.ints l)), (1, .int .i64 n), (6, .ref 0 [] 1 0 i), (7, .ref 1 [] 1 0 i), (8, .int .i64 i), (9, .ref 2 [] 1 0 s.2.1), (10, .int .i64 many), (11, .int .i64 s.1)], [(0, .osl 1 i (rowsO nd)), (1, .osl 1 i (HL.bools bad)), (2, .osl 1 s.2.1 (HL.ints (nl s.2.2)))], 3⟩)
      (fun s => many - s.1) (0, 0, []) ⟨by simp, rfl, by simp, by simp, .nil⟩ rfl ?_
    rintro ⟨k, q, x⟩ ⟨hk, hq, hqk, hlt, hs⟩
    simp only at hk hq hqk hlt hs ⊢
    subst hq
    have hxl := nl_len x
    by_cases hkm : k < many
    · repeat (first | refine F_mv zT0 rfl ?_ | refine F_nil zT1 ?_ | refine F_lss (by rfl) (by rfl) zT6 ?_ | refine F_add (by rfl) (by rfl) zT11 ?_ | refine hx_true (by rfl) ?_ | refine hx_seq ?_ | refine hx_region ?_ | refine hx_block ?_ | refine hx_skip ?_ | refine F_mul (by rfl) (by rfl) zT11 ?_)
      refine F_call (by (try simp only [List.map_cons, List.map_nil]); repeat (first | (apply eL1; · exact zT0) | rfl)) (by simp (disch := omega) only [thawL, HV.thaw, allIds, aget, nget, if_true, if_false, reduceIte, Nat.reduceEqDiff, stripL, HV.strip, win_intsE, win_boolsE, Nat.mul_one, List.cons_append, List.nil_append, List.append_nil, I, Bl, T3, List.getD_cons_zero, List.getD_cons_succ, HL.ints_strip, HL.bools_strip, trip_strip]; try rfl) (ht_gnum l (5 * i + k + 1) (by omega) (by omega) hl) ?_
      rintro _ ⟨at_, rfl, hx1, hx2⟩
      refine ⟨(by simp only [refFreeL, HV.refFree, noRdL, HV.noRd, HL.ints_noRd, HL.bools_noRd, trip_noRd, Bool.or_true, Bool.true_or, Bool.or_false, Bool.false_or, Bool.and_true, Bool.true_and, Bool.and_self, List.isEmpty_nil, beq_self_eq_true, List.cons_append, List.nil_append]), _, _, _, _, _, zT4, (by decide), (by simp only [upF, upS]; try rfl), ?_⟩
      have fin : ∀ v : Nat, v < n → (putN x v).length ≤ k + 1 ∧ (∀ j ∈ putN x v, j < n) ∧ (putN x v).Pairwise (· < ·) := fun v hv =>
        ⟨by have := putN_len x v; omega, fun j hj => by rcases (putN_mem x v j).1 hj with rfl | hj; exact hv; exact hlt j hj, putN_sorted v hs⟩
      have last : ∀ (m : Int), 0 < m → m ≤ n → ∃ v : Nat, (v : Int) = (at_.tdiv 7) % m ∧ v < n := fun m h0 h1 => by
        have e0 := Int.emod_nonneg (at_.tdiv 7) (show m ≠ 0 by omega)
        have e1 := Int.emod_lt_of_pos (at_.tdiv 7) h0
        exact ⟨((at_.tdiv 7) % m).toNat, by omega, by omega⟩
      have hmin : (if (256 : Int) < (n : Int) then (256 : Int) else (n : Int)) = n := by rw [if_neg (by omega)]
      have hd7 : -2000000 ≤ at_.tdiv 7 ∧ at_.tdiv 7 ≤ 2000000 := by
        rcases Int.le_total 0 at_ with h | h
        · rw [Int.tdiv_eq_ediv_of_nonneg h]; omega
        · have : at_.tdiv 7 = -((-at_) / 7) := by rw [← Int.tdiv_eq_ediv_of_nonneg (show 0 ≤ -at_ by omega), Int.neg_tdiv, Int.neg_neg]
          rw [this]; omega
      by_cases hi0 : i = 0
      · obtain ⟨v, hv1, hv2⟩ := last n (by omega) (by omega)
        obtain ⟨f1, f2, f3⟩ := fin v hv2
        repeat (first | refine F_mv zT0 rfl ?_ | refine F_no (by rfl) (by rfl) ?_ | refine F_nil zT1 ?_ | refine F_pickF (by rfl) zT0 ?_ | refine hx_false (by rfl) ?_ | refine hx_seq ?_ | refine hx_region ?_ | refine F_quo (by rfl) (by rfl) (by omega) (by (try simp (disch := omega) only [go_sem, Int.reduceAdd, Int.reduceSub, Int.reduceMul, hmin]); try rfl) ?_ | refine F_gtr (by rfl) (by rfl) zT6 ?_ | refine F_mm (by rfl) (by rfl) (by (try simp only [go_sem, reduceIte, hmin]); try rfl) ?_)
        refine F_call (by (try simp only [List.map_cons, List.map_nil]); repeat (first | (apply eL1; · exact zT0) | rfl)) (by simp (disch := omega) only [thawL, HV.thaw, allIds, aget, nget, if_true, if_false, reduceIte, Nat.reduceEqDiff, stripL, HV.strip, win_intsE, win_boolsE, Nat.mul_one, List.cons_append, List.nil_append, List.append_nil, I, Bl, T3, List.getD_cons_zero, List.getD_cons_succ, HL.ints_strip, HL.bools_strip, trip_strip]; try rfl) (ht_gmod (at_.tdiv 7) n (by omega) (by omega)) ?_
        rintro _ rfl
        rw [← hv1]
        refine ⟨(by simp only [refFreeL, HV.refFree, noRdL, HV.noRd, HL.ints_noRd, HL.bools_noRd, trip_noRd, Bool.or_true, Bool.true_or, Bool.or_false, Bool.false_or, Bool.and_true, Bool.true_and, Bool.and_self, List.isEmpty_nil, beq_self_eq_true, List.cons_append, List.nil_append]), _, _, _, _, _, zT4, (by decide), (by simp only [upF, upS]; try rfl), ?_⟩
        skip
        refine F_call (by (try simp only [List.map_cons, List.map_nil]); repeat (first | (apply eL1; · exact zT0) | rfl)) (by simp (disch := omega) only [thawL, nl_len, HV.thaw, allIds, aget, nget, if_true, if_false, reduceIte, Nat.reduceEqDiff, stripL, HV.strip, win_intsE, win_boolsE, Nat.mul_one, List.cons_append, List.nil_append, List.append_nil, I, Bl, T3, List.getD_cons_zero, List.getD_cons_succ, HL.ints_strip, HL.bools_strip, trip_strip]; try rfl) (ht_gput x v (by omega) hs) ?_
        rintro _ rfl
        refine ⟨(by simp only [refFreeL, HV.refFree, noRdL, HV.noRd, HL.ints_noRd, HL.bools_noRd, trip_noRd, Bool.or_true, Bool.true_or, Bool.or_false, Bool.false_or, Bool.and_true, Bool.true_and, Bool.and_self, List.isEmpty_nil, beq_self_eq_true, List.cons_append, List.nil_append]), _, _, _, _, _, zT4, (by decide), (by simp only [upF, upS]; try rfl), ?_⟩
        repeat (first | refine F_mv zT0 rfl ?_ | refine F_nil zT1 ?_ | refine F_add (by rfl) (by rfl) zT11 ?_ | refine hx_region ?_ | refine hx_b ?_)
        exact hx_lG [0, 1, 6, 7, 8, 9, 10, 11] (k + 1, (putN x v).length, putN x v) ⟨hkm, rfl, f1, f2, f3⟩ (by simp only; omega) rfl
      · repeat (first | refine F_mv zT0 rfl ?_ | refine F_yes (by rfl) (by rfl) ?_ | refine F_nil zT1 ?_ | refine hx_seq ?_ | refine hx_region ?_ | refine F_gtr (by rfl) (by rfl) zT6 ?_)
        refine F_call (by (try simp only [List.map_cons, List.map_nil]); repeat (first | (apply eL1; · exact zT0) | rfl)) (by simp (disch := omega) only [thawL, HV.thaw, allIds, aget, nget, if_true, if_false, reduceIte, Nat.reduceEqDiff, stripL, HV.strip, win_intsE, win_boolsE, Nat.mul_one, List.cons_append, List.nil_append, List.append_nil, I, Bl, T3, List.getD_cons_zero, List.getD_cons_succ, HL.ints_strip, HL.bools_strip, trip_strip]; try rfl) (ht_gmod at_ 7 (by omega) (by omega)) ?_
        rintro _ rfl
        refine ⟨(by simp only [refFreeL, HV.refFree, noRdL, HV.noRd, HL.ints_noRd, HL.bools_noRd, trip_noRd, Bool.or_true, Bool.true_or, Bool.or_false, Bool.false_or, Bool.and_true, Bool.true_and, Bool.and_self, List.isEmpty_nil, beq_self_eq_true, List.cons_append, List.nil_append]), _, _, _, _, _, zT4, (by decide), (by simp only [upF, upS]; try rfl), ?_⟩
        by_cases h6 : at_ % 7 < 6
        · obtain ⟨v, hv1, hv2⟩ := last i (by omega) (by omega)
          obtain ⟨f1, f2, f3⟩ := fin v hv2
          repeat (first | refine F_mv zT0 rfl ?_ | refine F_yes (by rfl) (by rfl) ?_ | refine F_nil zT1 ?_ | refine F_lss (by rfl) (by rfl) zT6 ?_ | refine F_pickT (by rfl) zT0 ?_ | refine hx_true (by rfl) ?_ | refine hx_region ?_ | refine F_quo (by rfl) (by rfl) (by omega) zT11 ?_)
          refine F_call (by (try simp only [List.map_cons, List.map_nil]); repeat (first | (apply eL1; · exact zT0) | rfl)) (by simp (disch := omega) only [thawL, HV.thaw, allIds, aget, nget, if_true, if_false, reduceIte, Nat.reduceEqDiff, stripL, HV.strip, win_intsE, win_boolsE, Nat.mul_one, List.cons_append, List.nil_append, List.append_nil, I, Bl, T3, List.getD_cons_zero, List.getD_cons_succ, HL.ints_strip, HL.bools_strip, trip_strip]; try rfl) (ht_gmod (at_.tdiv 7) i (by omega) (by omega)) ?_
          rintro _ rfl
          rw [← hv1]
          refine ⟨(by simp only [refFreeL, HV.refFree, noRdL, HV.noRd, HL.ints_noRd, HL.bools_noRd, trip_noRd, Bool.or_true, Bool.true_or, Bool.or_false, Bool.false_or, Bool.and_true, Bool.true_and, Bool.and_self, List.isEmpty_nil, beq_self_eq_true, List.cons_append, List.nil_append]), _, _, _, _, _, zT4, (by decide), (by simp only [upF, upS]; try rfl), ?_⟩
          skip
          refine F_call (by (try simp only [List.map_cons, List.map_nil]); repeat (first | (apply eL1; · exact zT0) | rfl)) (by simp (disch := omega) only [thawL, nl_len, HV.thaw, allIds, aget, nget, if_true, if_false, reduceIte, Nat.reduceEqDiff, stripL, HV.strip, win_intsE, win_boolsE, Nat.mul_one, List.cons_append, List.nil_append, List.append_nil, I, Bl, T3, List.getD_cons_zero, List.getD_cons_succ, HL.ints_strip, HL.bools_strip, trip_strip]; try rfl) (ht_gput x v (by omega) hs) ?_
          rintro _ rfl
          refine ⟨(by simp only [refFreeL, HV.refFree, noRdL, HV.noRd, HL.ints_noRd, HL.bools_noRd, trip_noRd, Bool.or_true, Bool.true_or, Bool.or_false, Bool.false_or, Bool.and_true, Bool.true_and, Bool.and_self, List.isEmpty_nil, beq_self_eq_true, List.cons_append, List.nil_append]), _, _, _, _, _, zT4, (by decide), (by simp only [upF, upS]; try rfl), ?_⟩
          repeat (first | refine F_mv zT0 rfl ?_ | refine F_nil zT1 ?_ | refine F_add (by rfl) (by rfl) zT11 ?_ | refine hx_region ?_ | refine hx_b ?_)
          exact hx_lG [0, 1, 6, 7, 8, 9, 10, 11] (k + 1, (putN x v).length, putN x v) ⟨hkm, rfl, f1, f2, f3⟩ (by simp only; omega) rfl
        · obtain ⟨v, hv1, hv2⟩ := last n (by omega) (by omega)
          obtain ⟨f1, f2, f3⟩ := fin v hv2
          repeat (first | refine F_mv zT0 rfl ?_ | refine F_yes (by rfl) (by rfl) ?_ | refine F_nil zT1 ?_ | refine F_lss (by rfl) (by rfl) zT6 ?_ | refine F_pickT (by rfl) zT0 ?_ | refine hx_false (by rfl) ?_ | refine hx_region ?_ | refine F_quo (by rfl) (by rfl) (by omega) (by (try simp (disch := omega) only [go_sem, Int.reduceAdd, Int.reduceSub, Int.reduceMul, hmin]); try rfl) ?_ | refine F_mm (by rfl) (by rfl) (by (try simp only [go_sem, reduceIte, hmin]); try rfl) ?_)
          refine F_call (by (try simp only [List.map_cons, List.map_nil]); repeat (first | (apply eL1; · exact zT0) | rfl)) (by simp (disch := omega) only [thawL, HV.thaw, allIds, aget, nget, if_true, if_false, reduceIte, Nat.reduceEqDiff, stripL, HV.strip, win_intsE, win_boolsE, Nat.mul_one, List.cons_append, List.nil_append, List.append_nil, I, Bl, T3, List.getD_cons_zero, List.getD_cons_succ, HL.ints_strip, HL.bools_strip, trip_strip]; try rfl) (ht_gmod (at_.tdiv 7) n (by omega) (by omega)) ?_
          rintro _ rfl
          rw [← hv1]
          refine ⟨(by simp only [refFreeL, HV.refFree, noRdL, HV.noRd, HL.ints_noRd, HL.bools_noRd, trip_noRd, Bool.or_true, Bool.true_or, Bool.or_false, Bool.false_or, Bool.and_true, Bool.true_and, Bool.and_self, List.isEmpty_nil, beq_self_eq_true, List.cons_append, List.nil_append]), _, _, _, _, _, zT4, (by decide), (by simp only [upF, upS]; try rfl), ?_⟩
          skip
          refine F_call (by (try simp only [List.map_cons, List.map_nil]); repeat (first | (apply eL1; · exact zT0) | rfl)) (by simp (disch := omega) only [thawL, nl_len, HV.thaw, allIds, aget, nget, if_true, if_false, reduceIte, Nat.reduceEqDiff, stripL, HV.strip, win_intsE, win_boolsE, Nat.mul_one, List.cons_append, List.nil_append, List.append_nil, I, Bl, T3, List.getD_cons_zero, List.getD_cons_succ, HL.ints_strip, HL.bools_strip, trip_strip]; try rfl) (ht_gput x v (by omega) hs) ?_
          rintro _ rfl
          refine ⟨(by simp only [refFreeL, HV.refFree, noRdL, HV.noRd, HL.ints_noRd, HL.bools_noRd, trip_noRd, Bool.or_true, Bool.true_or, Bool.or_false, Bool.false_or, Bool.and_true, Bool.true_and, Bool.and_self, List.isEmpty_nil, beq_self_eq_true, List.cons_append, List.nil_append]), _, _, _, _, _, zT4, (by decide), (by simp only [upF, upS]; try rfl), ?_⟩
          repeat (first | refine F_mv zT0 rfl ?_ | refine F_nil zT1 ?_ | refine F_add (by rfl) (by rfl) zT11 ?_ | refine hx_region ?_ | refine hx_b ?_)
          exact hx_lG [0, 1, 6, 7, 8, 9, 10, 11] (k + 1, (putN x v).length, putN x v) ⟨hkm, rfl, f1, f2, f3⟩ (by simp only; omega) rfl
    · have hsn := rowsO_snoc nd x rfl
      repeat (first | refine F_mv zT0 rfl ?_ | refine F_nil zT1 ?_ | refine F_lss (by rfl) (by rfl) zT6 ?_ | refine F_add (by rfl) (by rfl) (by (try simp (disch := omega) only [go_sem, Int.reduceAdd, Int.reduceSub, Int.reduceMul, hsn]); try rfl) ?_ | refine hx_exitS (by rfl) ?_ | refine hx_false (by rfl) ?_ | refine hx_seq ?_ | refine hx_region ?_ | refine F_mul (by rfl) (by rfl) (by (try simp (disch := omega) only [go_sem, Int.reduceAdd, Int.reduceSub, Int.reduceMul, hsn]); try rfl) ?_ | refine F_bslG zT1 (by (try simp only [List.map_cons, List.map_nil]); repeat (first | (apply eL1; · exact zT0) | rfl)) (by (try simp only [go_sem]); try rfl) (by simp only [takeL, takeC, aget, Lk.upd, if_true, if_false, reduceIte, Nat.reduceEqDiff, List.append_nil, List.nil_append, List.cons_append]; try rfl) (by simp) (by rfl) (by rfl) (by rfl) ?_ | refine F_appRG zT1 (by rfl) zT0 zT9 (by simp [allCell_cons, allCell_nil, cellV]) (by first | exact eO rfl | exact eW rfl) (by (try simp only [go_sem]); try rfl) zT1 (by omega) (by unfold maxLen; omega) (by (try simp only [go_sem]); first | omega | decide) (by (try simp (disch := omega) only [go_sem, reduceIte, Nat.reduceEqDiff, Nat.reduceAdd, Nat.reduceMul, hsn]); try rfl) (by (try simp only [go_sem]); try rfl) (by rfl) ?_)
      refine F_call (by (try simp only [List.map_cons, List.map_nil]); repeat (first | (apply eL1; · exact zT0) | rfl)) (by simp (disch := omega) only [thawL, HV.thaw, allIds, aget, nget, if_true, if_false, reduceIte, Nat.reduceEqDiff, stripL, HV.strip, win_intsE, win_boolsE, Nat.mul_one, List.cons_append, List.nil_append, List.append_nil, I, Bl, T3, List.getD_cons_zero, List.getD_cons_succ, HL.ints_strip, HL.bools_strip, trip_strip]; try rfl) (ht_gnum l (5 * i + 4) (by omega) (by omega) hl) ?_
      rintro _ ⟨at_, rfl, hx1, hx2⟩
      refine ⟨(by simp only [refFreeL, HV.refFree, noRdL, HV.noRd, HL.ints_noRd, HL.bools_noRd, trip_noRd, Bool.or_true, Bool.true_or, Bool.or_false, Bool.false_or, Bool.and_true, Bool.true_and, Bool.and_self, List.isEmpty_nil, beq_self_eq_true, List.cons_append, List.nil_append]), _, _, _, _, _, zT4, (by decide), (by simp only [upF, upS]; try rfl), ?_⟩
      skip
      refine F_call (by (try simp only [List.map_cons, List.map_nil]); repeat (first | (apply eL1; · exact zT0) | rfl)) (by simp (disch := omega) only [thawL, HV.thaw, allIds, aget, nget, if_true, if_false, reduceIte, Nat.reduceEqDiff, stripL, HV.strip, win_intsE, win_boolsE, Nat.mul_one, List.cons_append, List.nil_append, List.append_nil, I, Bl, T3, List.getD_cons_zero, List.getD_cons_succ, HL.ints_strip, HL.bools_strip, trip_strip]; try rfl) (ht_gmod at_ 11 (by omega) (by omega)) ?_
      rintro _ rfl
      refine ⟨(by simp only [refFreeL, HV.refFree, noRdL, HV.noRd, HL.ints_noRd, HL.bools_noRd, trip_noRd, Bool.or_true, Bool.true_or, Bool.or_false, Bool.false_or, Bool.and_true, Bool.true_and, Bool.and_self, List.isEmpty_nil, beq_self_eq_true, List.cons_append, List.nil_append]), _, _, _, _, _, zT4, (by decide), (by simp only [upF, upS]; try rfl), ?_⟩
      generalize at_ % 11 = a11
      refine F_eql (by rfl) (by rfl) (by first | exact eqT (by omega) | exact eqF (by omega) | rfl) ?_
      repeat (first | refine F_mv zT0 rfl ?_ | refine F_nil zT1 ?_ | refine F_add (by rfl) (by rfl) zT11 ?_ | refine hx_region ?_ | refine hx_b ?_ | refine F_bsl zT1 (by (try simp only [List.map_cons, List.map_nil]); repeat (first | (apply eL1; · exact zT0) | rfl)) (by (try simp only [go_sem]); try rfl) (by first | rfl | exact HL.ints_flat _ | exact HL.bools_flat _) (by rfl) (by rfl) ?_ | refine F_appR zT1 (by rfl) zT0 zT9 (by (try simp (disch := omega) only [go_sem, reduceIte, Nat.reduceEqDiff, Nat.reduceAdd, Nat.reduceMul]); try omega) (by first | exact eO rfl | exact eW rfl) (by (try simp only [go_sem]); try rfl) zT1 (by omega) (by unfold maxLen; omega) (by (try simp only [go_sem]); first | omega | decide) (by (try simp (disch := omega) only [go_sem, reduceIte, Nat.reduceEqDiff, Nat.reduceAdd, Nat.reduceMul]); try rfl) (by (try simp only [go_sem]); try rfl) ?_)
      exact hx_lG [0, 1, 6, 7, 8] (i + 1, nd ++ [x], bad ++ [a11 == 0]) ⟨hin, by simp [hnd], g.snoc _ hlt hs (by omega)⟩ (by simp only; omega) rfl
  · obtain rfl : i = n := by omega
    repeat (first | refine F_mv zT0 rfl ?_ | refine F_no (by rfl) (by rfl) ?_ | refine F_nil zT1 ?_ | refine F_lss (by rfl) (by rfl) zT6 ?_ | refine F_pickF (by rfl) zT0 ?_ | refine hx_exitS (by rfl) ?_ | refine hx_false (by rfl) ?_ | refine hx_seq ?_ | refine hx_region ?_)
    refine hx_retF (by (try simp only [List.map_cons, List.map_nil]); repeat (first | (apply eL1; · exact zT0) | rfl)) zT5 zT7 ?_
    exact ⟨nd, bad, rfl, hnd, ⟨by omega, hbl, fun i j hj => by rw [hnd]; exact g.lt i j hj, g.sorted⟩, g.few⟩

end Go.Proofs.Ytjlidhijnohkbaa
