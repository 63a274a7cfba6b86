/-
  OWN WORK. The program's Fill, in the value language.
-/
import Derived.Test.YtpffacaeonccpaaCoG
import Derived.Test.YtpffacaeonccpaaHlRo
set_option linter.unusedSimpArgs false
set_option linter.unusedVariables false
namespace Go.Proofs.Ytpffacaeonccpaa
open Go.RowKit Go.HL

theorem cuts_len {A : List (Bool × Bool)} {h : Nat} : ∀ {k p : Nat} {l : List Nat}, cuts A h k p = some l → l.length ≤ k
  | k, p, l, e => (cuts_ends.1 e).2

/-- The rows up to the j-th line of the i-th block. -/
def Rw (f : Nat → Tr) (ls : List Nat) (i j : Nat) : List (List Tr) := (List.range ls.length).map fun k => (List.range (if k < i then ls.getD k 0 else if k = i then j else 0)).map fun t => f ((ls.take k).sum + t)
theorem Rw_len (f : Nat → Tr) (ls : List Nat) (i j : Nat) : (Rw f ls i j).length = ls.length := by simp [Rw]
theorem Rw_get (f : Nat → Tr) (ls : List Nat) (i j : Nat) (h : i < ls.length) : (Rw f ls i j).getD i [] = (List.range j).map fun t => f ((ls.take i).sum + t) := by
  simp [Rw, List.getD_eq_getElem?_getD, h]
theorem Rw_zero (f : Nat → Tr) (ls : List Nat) : Rw f ls 0 0 = List.replicate ls.length [] := by
  apply List.ext_getElem?
  intro k
  simp only [Rw, List.getElem?_map, List.getElem?_replicate]
  by_cases h : k < ls.length
  · rw [List.getElem?_range h, if_pos h]; simp
  · rw [List.getElem?_eq_none (by simpa using h), if_neg h]; rfl
theorem Rw_next (f : Nat → Tr) (ls : List Nat) (i : Nat) (h : i < ls.length) : Rw f ls i (ls.getD i 0) = Rw f ls (i + 1) 0 := by
  unfold Rw
  apply List.map_congr_left
  intro k hk
  congr 2
  by_cases h1 : k < i
  · rw [if_pos h1, if_pos (by omega)]
  · by_cases h2 : k = i
    · subst h2; rw [if_neg h1, if_pos rfl, if_pos (by omega)]
    · rw [if_neg h1, if_neg h2, if_neg (by omega)]; split <;> rfl
theorem Rw_set (f : Nat → Tr) (ls : List Nat) (i j : Nat) (h : i < ls.length) : (Rw f ls i j).set i ((List.range (j + 1)).map fun t => f ((ls.take i).sum + t)) = Rw f ls i (j + 1) := by
  apply List.ext_getElem?
  intro k
  rw [List.getElem?_set]
  by_cases hk : i = k
  · subst hk
    rw [if_pos rfl, if_pos (by rw [Rw_len]; exact h)]
    simp [Rw, h]
  · rw [if_neg hk]
    simp only [Rw, List.getElem?_map]
    by_cases h2 : k < ls.length
    · rw [List.getElem?_range h2]
      simp only [Option.map_some]
      by_cases h3 : k < i
      · simp [h3]
      · simp [h3, Ne.symm hk]
    · rw [List.getElem?_eq_none (by simpa using h2)]; rfl
theorem Rw_all (f : Nat → Tr) (ls : List Nat) : Rw f ls ls.length 0 = rowsF f 0 ls := by
  apply List.ext_getElem?
  intro k
  by_cases h : k < ls.length
  · have := rowsF_get f ls 0 k h
    rw [List.getD_eq_getElem?_getD] at this
    cases hk : (rowsF f 0 ls)[k]? with
    | none => rw [List.getElem?_eq_none_iff, rowsF_len] at hk; omega
    | some v =>
      rw [hk] at this
      simp only [Option.getD_some] at this
      rw [this]
      simp [Rw, h]
  · rw [List.getElem?_eq_none (by rw [Rw_len]; omega), List.getElem?_eq_none (by rw [rowsF_len]; omega)]

set_option maxHeartbeats 16000000 in
theorem fill_rest (ls : List Nat) (hl : ls.length ≤ 512) (hb : ∀ n ∈ ls, 0 < n ∧ n ≤ 512) (cols : Nat) (hc : 0 < cols) (hc2 : cols ≤ 8) (E : List Nat) (hri : Rises ls.sum 0 E) (hEb : E.length ≤ 300000) :
    hx Try.prog [HI.c c5_27] (finish [6, 7] fun r => r = fillV rowsTO ls cols (some E)) ⟨[(0, .sl ls.length (HL.ints (nl ls))), (2, .int .i64 cols), (9, .ref 0 [] 1 0 E.length)], [(0, .osl 1 E.length (HL.ints (nl E)))], 1⟩ := by
  have hT := sum_take_bd ls hb ls.length (Nat.le_refl _)
  rw [List.take_length] at hT
  have hnE := nl_len E
  have hz := rowsTO_nil ls.length
  repeat (first | refine F_mv zT0 rfl ?_ | refine F_nil zT1 ?_ | refine F_lenS (by rfl) ?_ | refine hx_seq ?_ | refine hx_region ?_ | refine hx_block ?_ | refine F_mksl zT1 (by rfl) (by omega) (by (try simp only [go_sem]); try rfl) (by (try simp only [go_sem]); try rfl) ?_)
  refine hx_loopG [0, 2, 9, 16, 17, 18, 19, 78, 79, 80] (fun i : Nat => i ≤ ls.length)
    (fun i => ⟨[(0, .sl ls.length (HL.ints (nl ls))), (2, .int .i64 cols), (9, .ref 0 [] 1 0 E.length), (16, .ref 1 [] 1 0 ls.length), (17, .int .i64 ((ls.take i).sum : Nat)), (18, .int .i64 (cLt E (ls.take i).sum : Nat)), (19, .int .i64 (startOf E (cLt E (ls.take i).sum) : Nat)), (78, .sl ls.length (HL.ints (nl ls))), (79, .int .i64 ls.length), (80, .int .i64 i)], [(0, .osl 1 E.length (HL.ints (nl E))), (1, .osl 1 ls.length (rowsTO (Rw (slotOf cols E) ls i 0)))], 2⟩)
    (fun i => ls.length - i) 0 (by omega) ?_ ?_
  · have h0 : cLt E 0 = 0 := by cases E <;> simp [cLt]
    rw [show (ls.take 0).sum = 0 from rfl, h0, Rw_zero, ← hz]
    rfl
  · intro i hi
    by_cases hil : i < ls.length
    · have hng := nl_getD ls i
      have hnb := hb _ (getD_memI ls 0 hil)
      have hs2 := sum_take_succ ls hil
      have hs3 := sum_take_le ls (i + 1)
      have hil' : i < (nl ls).length := by rw [nl_len]; exact hil
      have hRn := Rw_next (slotOf cols E) ls i hil
      obtain ⟨n, hn⟩ : ∃ n, ls.getD i 0 = n := ⟨_, rfl⟩
      obtain ⟨s, hss⟩ : ∃ s, (ls.take i).sum = s := ⟨_, rfl⟩
      rw [hn] at hng hnb hs2 hRn
      rw [hss] at hs2
      rw [hs2] at hs3
      rw [hss]
      repeat (first | refine F_mv zT0 rfl ?_ | refine F_iaS (by rfl) (by rfl) (by omega) zT1 ?_ | refine F_ldP (by rfl) (by (try simp only [go_sem]); first | omega | decide) (by (try simp (disch := omega) only [go_sem, hng]); try rfl) ?_ | refine F_nil zT1 ?_ | refine F_lss (by rfl) (by rfl) zT6 ?_ | refine hx_true (by rfl) ?_ | refine hx_seq ?_ | refine hx_region ?_ | refine hx_block ?_ | refine hx_skip ?_)
      refine hx_loopG [0, 2, 9, 16, 17, 18, 19, 20, 78, 79, 80, 85, 86] (fun j : Nat => j ≤ n)
        (fun j => ⟨[(0, .sl ls.length (HL.ints (nl ls))), (2, .int .i64 cols), (9, .ref 0 [] 1 0 E.length), (16, .ref 1 [] 1 0 ls.length), (17, .int .i64 (s + j : Nat)), (18, .int .i64 (cLt E (s + j) : Nat)), (19, .int .i64 (startOf E (cLt E (s + j)) : Nat)), (20, .int .i64 i), (78, .sl ls.length (HL.ints (nl ls))), (79, .int .i64 ls.length), (80, .int .i64 i), (85, .int .i64 n), (86, .int .i64 j)], [(0, .osl 1 E.length (HL.ints (nl E))), (1, .osl 1 ls.length (rowsTO (Rw (slotOf cols E) ls i j)))], 2⟩)
        (fun j => n - j) 0 (by omega) rfl ?_
      intro j hj
      by_cases hjn : j < n
      · obtain ⟨g1, g2, g3, g4⟩ := hri.col (by omega) (s + j) (by omega)
        have hsu := cLt_succ E (s + j)
        have hsl : slotOf cols E (s + j) = (((cLe E (s + j) / cols : Nat) : Int), ((cLe E (s + j) % cols : Nat) : Int), ((s + j : Nat) : Int) - (startOf E (cLe E (s + j)) : Nat)) := rfl
        have hec := nl_getD E (cLt E (s + j))
        obtain ⟨c, hcc⟩ : ∃ c, cLt E (s + j) = c := ⟨_, rfl⟩
        have hrg := Rw_get (slotOf cols E) ls i j hil
        have hrs := Rw_set (slotOf cols E) ls i j hil
        rw [hss] at hrg hrs
        rw [hcc] at g1 g2 g3 g4 hec
        have hRl := Rw_len (slotOf cols E) ls i j
        have hget := rowsTO_get (Rw (slotOf cols E) ls i j) (i := i) (by rw [hRl]; exact hil)
        rw [hrg] at hget
        obtain ⟨row, hrow⟩ : ∃ row, (List.range j).map (fun t => slotOf cols E (s + t)) = row := ⟨_, rfl⟩
        have hrl : row.length = j := by rw [← hrow]; simp
        have hrow2 : (List.range (j + 1)).map (fun t => slotOf cols E (s + t)) = row ++ [slotOf cols E (s + j)] := by rw [List.range_succ, List.map_append, ← hrow]; rfl
        rw [hrow, hrl] at hget
        rw [hrow2] at hrs
        have hw : win (HL.trip row) 0 (j * 3) = HL.trip row := win_all _ (by rw [HL.trip_len, hrl])
        have htl : (HL.trip row).length = j * 3 := by rw [HL.trip_len, hrl]
        have hRL : (rowsTO (Rw (slotOf cols E) ls i j)).length = ls.length := by rw [rowsTO_len, hRl]
        obtain ⟨R, hR⟩ : ∃ R, Rw (slotOf cols E) ls i j = R := ⟨_, rfl⟩
        rw [hR] at hRL hget hrs hRl ⊢
        -- one line, its column and the column's start being known
        have one : ∀ (d : Nat) (b : Int), d ≤ 300000 → 0 ≤ b → b ≤ 1000000 → cLe E (s + j) = d → ((startOf E d : Nat) : Int) = b →
            ∃ q m : Nat, q ≤ d ∧ m < cols ∧ (d : Int).tdiv (cols : Int) = (q : Int) ∧ (d : Int).tmod (cols : Int) = (m : Int) ∧ HL.trip row ++ [.int .i64 (q : Int), .int .i64 (m : Int), .int .i64 (((s + j : Nat) : Int) - b)] = HL.trip (row ++ [slotOf cols E (s + j)]) := by
          intro d b _ _ _ hd hb'
          refine ⟨d / cols, d % cols, Nat.div_le_self _ _, Nat.mod_lt _ hc, (Int.ofNat_tdiv _ _).symm, (Int.ofNat_tmod _ _).symm, ?_⟩
          rw [HL.trip_snoc, hsl, hd, ← hb']
        have hset : ((rowsTO R).set i .dead).set i (.osl 3 (j + 1) (HL.trip (row ++ [slotOf cols E (s + j)]))) = rowsTO (Rw (slotOf cols E) ls i (j + 1)) := by
          rw [List.set_set, ← hrs, ← rowsTO_set, List.length_append, hrl]; rfl
        have hbdE : c < E.length → E.getD c 0 ≤ ls.sum := fun h => (hri.bd c h).2
        have hstb : ∀ d, d ≤ E.length → startOf E d ≤ ls.sum := fun d hd => by
          unfold startOf
          split
          · omega
          · exact (hri.bd _ (by omega)).2
        rw [hcc]
        by_cases heq : E.getD c 0 = s + j
        · have hle := g3 heq
          have hst : startOf E (c + 1) = s + j := by rw [startOf_succ, heq]
          obtain ⟨q, m, h1, h2, h3, h4, h5⟩ := one (c + 1) ((s + j : Nat) : Int) (by omega) (by omega) (by omega) hle (by rw [hst])
          rw [heq] at hec
          have hcast : (c : Int) + 1 = ((c + 1 : Nat) : Int) := by omega
          have hsub : ((s + j : Nat) : Int) - ((s + j : Nat) : Int) = 0 := by omega
          repeat (first | refine F_mv zT0 rfl ?_ | refine F_iaR (by rfl) (by rfl) (by omega) zT1 ?_ | refine F_ldR (by rfl) (by first | exact eO rfl | exact eW rfl) (by (try simp (disch := omega) only [go_sem, reduceIte, Nat.reduceEqDiff, Nat.reduceAdd, Nat.reduceMul, hec, hcast]); try rfl) (by (try simp only [go_sem]); first | omega | decide) (by (try simp (disch := omega) only [go_sem, hec, hcast]); try rfl) zT0 ?_ | refine F_nil zT1 ?_ | refine F_lss (by rfl) (by rfl) zT6 ?_ | refine F_eql (by rfl) (by rfl) (by first | exact eqT (by omega) | exact eqF (by omega) | rfl) ?_ | refine F_add (by rfl) (by rfl) (by (try simp (disch := omega) only [go_sem, Int.reduceAdd, Int.reduceSub, Int.reduceMul, hec, hcast]); try rfl) ?_ | refine hx_true (by rfl) ?_ | refine hx_seq ?_ | refine hx_region ?_ | refine hx_block ?_ | refine hx_skip ?_)
          refine hx_drawR [2, 17, 18, 19, 20] [16] (by kernel_rfl) (by kernel_rfl) (fun _ _ _ => False) (by
            intro t ht
            simp only [List.mem_cons, List.not_mem_nil, or_false] at ht
            rcases ht with rfl | rfl | rfl | rfl | rfl <;> simp [aget, HV.deep]) (by
            intro t ht
            simp only [List.mem_cons, List.not_mem_nil, or_false] at ht
            subst ht
            simp [aget, HV.deep]) ?_
          repeat (first | refine F_mv zT0 rfl ?_ | refine F_iaR (by rfl) (by rfl) (by omega) zT1 ?_ | refine F_ldR (by rfl) (by first | exact eO rfl | exact eW rfl) (by (try simp (disch := omega) only [go_sem, reduceIte, Nat.reduceEqDiff, Nat.reduceAdd, Nat.reduceMul, hget, hw, htl, h3, h4, h5, hset, hRL]); try rfl) (by (try simp only [go_sem]); first | omega | decide) (by (try simp (disch := omega) only [go_sem, hget, hw, htl, h3, h4, h5, hset, hRL]); try rfl) zT0 ?_ | refine F_nil zT1 ?_ | refine F_add (by rfl) (by rfl) (by (try simp (disch := omega) only [go_sem, Int.reduceAdd, Int.reduceSub, Int.reduceMul, hget, hw, htl, h3, h4, h5, hset, hRL]); try rfl) ?_ | refine hx_region ?_ | refine hx_b ?_ | refine F_sub (by rfl) (by rfl) (by (try simp (disch := omega) only [go_sem, Int.reduceAdd, Int.reduceSub, Int.reduceMul, hget, hw, htl, h3, h4, h5, hset, hRL]); try rfl) ?_ | refine F_quo (by rfl) (by rfl) (by omega) (by (try simp (disch := omega) only [go_sem, Int.reduceAdd, Int.reduceSub, Int.reduceMul, hget, hw, htl, h3, h4, h5, hset, hRL]); try rfl) ?_ | refine F_rem (by rfl) (by rfl) (by omega) (by (try simp (disch := omega) only [go_sem, Int.reduceAdd, Int.reduceSub, Int.reduceMul, hget, hw, htl, h3, h4, h5, hset, hRL]); try rfl) ?_ | refine F_stG (by rfl) zT0 (by (try simp only [go_sem]); try rfl) (by simp only [takeL, takeC, aget, Lk.upd, if_true, if_false, reduceIte, Nat.reduceEqDiff, List.append_nil, List.nil_append, List.cons_append]; try rfl) (by first | trivial | (refine ⟨?_, ?_⟩ <;> trivial)) (by rfl) (by first | exact Nat.zero_lt_one | decide) (by rfl) (by simp only [Lk.upd, aget, if_true, if_false, reduceIte, Nat.reduceEqDiff, reduceCtorEq]; try rfl) (by (try simp (disch := omega) only [go_sem, reduceIte, Nat.reduceEqDiff, Nat.reduceAdd, Nat.reduceMul, hget, hw, htl, h3, h4, h5, hset, hRL]); try rfl) (by (try simp only [go_sem]); first | omega | decide) (by (try simp (disch := omega) only [go_sem, hget, hw, htl, h3, h4, h5, hset, hRL]); try rfl) (by (try simp only [go_sem]); try rfl) (by simp only [upF, List.cons_append, List.nil_append, List.append_nil, List.map_cons, List.map_nil, HV.kill, killL, List.length_nil, List.length_cons, Nat.reduceEqDiff, Nat.reduceLT, Nat.reduceAdd, if_true, if_false, reduceIte, and_true, true_and, and_false, false_and, and_self, reduceCtorEq, Nat.lt_irrefl]; try rfl) ?_ | refine F_bsl zT1 (by (try simp only [List.map_cons, List.map_nil]); repeat (first | (apply eL1; · exact zT0) | rfl)) (by (try simp only [go_sem]); try rfl) (by first | rfl | exact HL.ints_flat _ | exact HL.bools_flat _) (by rfl) (by rfl) ?_ | refine F_appR zT1 (by rfl) zT0 zT9 (by (try simp (disch := omega) only [go_sem, reduceIte, Nat.reduceEqDiff, Nat.reduceAdd, Nat.reduceMul, hget, hw, htl, h3, h4, h5, hset, hRL]); try omega) (by first | exact eO rfl | exact eW rfl) (by (try simp (disch := omega) only [go_sem, reduceIte, Nat.reduceEqDiff, Nat.reduceAdd, Nat.reduceMul, hget, hw, htl, h3, h4, h5, hset, hRL]); try rfl) zT1 (by omega) (by unfold maxLen; omega) (by (try simp only [go_sem]); first | omega | decide) (by (try simp (disch := omega) only [go_sem, reduceIte, Nat.reduceEqDiff, Nat.reduceAdd, Nat.reduceMul, hget, hw, htl, h3, h4, h5, hset, hRL]); try rfl) (by (try simp only [go_sem]); try rfl) ?_ | refine F_bld (by (try simp only [List.map_cons, List.map_nil]); repeat (first | (apply eP1; · exact zT0) | rfl)) (by simp only [fillAt, setFrom, cellsOf, List.set_cons_zero, List.set_cons_succ]; try rfl) (by simp [notDead]) ?_)
          exact hx_lG [0, 2, 9, 16, 17, 18, 19, 20, 78, 79, 80, 85, 86] (j + 1) hjn (by omega) (by rw [show s + (j + 1) = s + j + 1 from rfl, hsu, hle, hst]; rfl)
        · have hle := g4 heq
          have hstc := hstb c (by omega)
          obtain ⟨b, hb'⟩ : ∃ b, startOf E c = b := ⟨_, rfl⟩
          rw [hb'] at hstc
          obtain ⟨q, m, h1, h2, h3, h4, h5⟩ := one c (b : Int) (by omega) (by omega) (by omega) hle (by rw [hb'])
          obtain ⟨e, hee⟩ : ∃ e, E.getD c 0 = e := ⟨_, rfl⟩
          rw [hee] at hec heq
          rw [hb']
          repeat (first | refine F_mv zT0 rfl ?_ | refine F_iaR (by rfl) (by rfl) (by omega) zT1 ?_ | refine F_ldR (by rfl) (by first | exact eO rfl | exact eW rfl) (by (try simp (disch := omega) only [go_sem, reduceIte, Nat.reduceEqDiff, Nat.reduceAdd, Nat.reduceMul, hec]); try rfl) (by (try simp only [go_sem]); first | omega | decide) (by (try simp (disch := omega) only [go_sem, hec]); try rfl) zT0 ?_ | refine F_nil zT1 ?_ | refine F_lss (by rfl) (by rfl) zT6 ?_ | refine F_eql (by rfl) (by rfl) (by first | exact eqT (by omega) | exact eqF (by omega) | rfl) ?_ | refine hx_true (by rfl) ?_ | refine hx_false (by rfl) ?_ | refine hx_seq ?_ | refine hx_region ?_ | refine hx_block ?_ | refine hx_skip ?_)
          refine hx_drawR [2, 17, 18, 19, 20] [16] (by kernel_rfl) (by kernel_rfl) (fun _ _ _ => False) (by
            intro t ht
            simp only [List.mem_cons, List.not_mem_nil, or_false] at ht
            rcases ht with rfl | rfl | rfl | rfl | rfl <;> simp [aget, HV.deep]) (by
            intro t ht
            simp only [List.mem_cons, List.not_mem_nil, or_false] at ht
            subst ht
            simp [aget, HV.deep]) ?_
          repeat (first | refine F_mv zT0 rfl ?_ | refine F_iaR (by rfl) (by rfl) (by omega) zT1 ?_ | refine F_ldR (by rfl) (by first | exact eO rfl | exact eW rfl) (by (try simp (disch := omega) only [go_sem, reduceIte, Nat.reduceEqDiff, Nat.reduceAdd, Nat.reduceMul, hget, hw, htl, h3, h4, h5, hset, hRL]); try rfl) (by (try simp only [go_sem]); first | omega | decide) (by (try simp (disch := omega) only [go_sem, hget, hw, htl, h3, h4, h5, hset, hRL]); try rfl) zT0 ?_ | refine F_nil zT1 ?_ | refine F_add (by rfl) (by rfl) (by (try simp (disch := omega) only [go_sem, Int.reduceAdd, Int.reduceSub, Int.reduceMul, hget, hw, htl, h3, h4, h5, hset, hRL]); try rfl) ?_ | refine hx_region ?_ | refine hx_b ?_ | refine F_sub (by rfl) (by rfl) (by (try simp (disch := omega) only [go_sem, Int.reduceAdd, Int.reduceSub, Int.reduceMul, hget, hw, htl, h3, h4, h5, hset, hRL]); try rfl) ?_ | refine F_quo (by rfl) (by rfl) (by omega) (by (try simp (disch := omega) only [go_sem, Int.reduceAdd, Int.reduceSub, Int.reduceMul, hget, hw, htl, h3, h4, h5, hset, hRL]); try rfl) ?_ | refine F_rem (by rfl) (by rfl) (by omega) (by (try simp (disch := omega) only [go_sem, Int.reduceAdd, Int.reduceSub, Int.reduceMul, hget, hw, htl, h3, h4, h5, hset, hRL]); try rfl) ?_ | refine F_stG (by rfl) zT0 (by (try simp only [go_sem]); try rfl) (by simp only [takeL, takeC, aget, Lk.upd, if_true, if_false, reduceIte, Nat.reduceEqDiff, List.append_nil, List.nil_append, List.cons_append]; try rfl) (by first | trivial | (refine ⟨?_, ?_⟩ <;> trivial)) (by rfl) (by first | exact Nat.zero_lt_one | decide) (by rfl) (by simp only [Lk.upd, aget, if_true, if_false, reduceIte, Nat.reduceEqDiff, reduceCtorEq]; try rfl) (by (try simp (disch := omega) only [go_sem, reduceIte, Nat.reduceEqDiff, Nat.reduceAdd, Nat.reduceMul, hget, hw, htl, h3, h4, h5, hset, hRL]); try rfl) (by (try simp only [go_sem]); first | omega | decide) (by (try simp (disch := omega) only [go_sem, hget, hw, htl, h3, h4, h5, hset, hRL]); try rfl) (by (try simp only [go_sem]); try rfl) (by simp only [upF, List.cons_append, List.nil_append, List.append_nil, List.map_cons, List.map_nil, HV.kill, killL, List.length_nil, List.length_cons, Nat.reduceEqDiff, Nat.reduceLT, Nat.reduceAdd, if_true, if_false, reduceIte, and_true, true_and, and_false, false_and, and_self, reduceCtorEq, Nat.lt_irrefl]; try rfl) ?_ | refine F_bsl zT1 (by (try simp only [List.map_cons, List.map_nil]); repeat (first | (apply eL1; · exact zT0) | rfl)) (by (try simp only [go_sem]); try rfl) (by first | rfl | exact HL.ints_flat _ | exact HL.bools_flat _) (by rfl) (by rfl) ?_ | refine F_appR zT1 (by rfl) zT0 zT9 (by (try simp (disch := omega) only [go_sem, reduceIte, Nat.reduceEqDiff, Nat.reduceAdd, Nat.reduceMul, hget, hw, htl, h3, h4, h5, hset, hRL]); try omega) (by first | exact eO rfl | exact eW rfl) (by (try simp (disch := omega) only [go_sem, reduceIte, Nat.reduceEqDiff, Nat.reduceAdd, Nat.reduceMul, hget, hw, htl, h3, h4, h5, hset, hRL]); try rfl) zT1 (by omega) (by unfold maxLen; omega) (by (try simp only [go_sem]); first | omega | decide) (by (try simp (disch := omega) only [go_sem, reduceIte, Nat.reduceEqDiff, Nat.reduceAdd, Nat.reduceMul, hget, hw, htl, h3, h4, h5, hset, hRL]); try rfl) (by (try simp only [go_sem]); try rfl) ?_ | refine F_bld (by (try simp only [List.map_cons, List.map_nil]); repeat (first | (apply eP1; · exact zT0) | rfl)) (by simp only [fillAt, setFrom, cellsOf, List.set_cons_zero, List.set_cons_succ]; try rfl) (by simp [notDead]) ?_)
          exact hx_lG [0, 2, 9, 16, 17, 18, 19, 20, 78, 79, 80, 85, 86] (j + 1) hjn (by omega) (by rw [show s + (j + 1) = s + j + 1 from rfl, hsu, hle, hb']; rfl)
      · obtain rfl : j = n := by omega
        rw [hRn]
        repeat (first | refine F_mv zT0 rfl ?_ | refine F_nil zT1 ?_ | refine F_lss (by rfl) (by rfl) zT6 ?_ | refine F_add (by rfl) (by rfl) zT11 ?_ | refine hx_exitS (by rfl) ?_ | refine hx_false (by rfl) ?_ | refine hx_seq ?_ | refine hx_region ?_ | refine hx_b ?_)
        exact hx_lG [0, 2, 9, 16, 17, 18, 19, 78, 79, 80] (i + 1) hil (by omega) (by rw [hs2]; rfl)
    · obtain rfl : i = ls.length := by omega
      rw [Rw_all]
      repeat (first | refine F_mv zT0 rfl ?_ | refine F_nil zT1 ?_ | refine F_lss (by rfl) (by rfl) zT6 ?_ | refine hx_exitS (by rfl) ?_ | refine hx_false (by rfl) ?_ | refine hx_seq ?_ | refine hx_region ?_)
      refine hx_retF (by (try simp only [List.map_cons, List.map_nil]); repeat (first | (apply eL1; · exact zT0) | rfl)) zT5 zT7 ?_
      rfl
end Go.Proofs.Ytpffacaeonccpaa
