/-
  OWN WORK. The reference's Max in the value language.
-/
import Derived.Test.YtkhbiknjkffpjaaClRMaxP
import Derived.Test.YtkhbiknjkffpjaaClGr
import Derived.Test.YtkhbiknjkffpjaaClClsd
import Derived.Test.YtkhbiknjkffpjaaHlRo
set_option linter.unusedSimpArgs false
set_option linter.unusedVariables false
namespace Go.Proofs.Ytkhbiknjkffpjaa
open Go.RowKit Go.SL Go.HL

theorem closedN_Y {nd : List (List Nat)} {X : List Bool} : ClosedX (nd.map nl) X ↔ ClosedN nd X := by
  constructor
  · intro h u hu j hj
    have := h u hu j (by rw [nl_getD]; exact List.mem_map.2 ⟨j, hj, rfl⟩)
    simpa using this
  · intro h u hu j hj
    rw [nl_getD] at hj
    obtain ⟨k, hk, rfl⟩ := List.mem_map.1 hj
    simpa using h u hu k hk
theorem shl_pow9 (n : Nat) (h : n ≤ 9) : ∃ q : Nat, q = 2 ^ n ∧ IntKind.u64.wrap (n : Int) = n ∧ IntKind.i64.wrap (1 * 2 ^ (min n 64)) = (q : Int) ∧ 1 ≤ q ∧ q ≤ 512 := by
  refine ⟨2 ^ n, rfl, ?_⟩
  have : ∀ m : Nat, m < 10 → IntKind.u64.wrap (m : Int) = m ∧ IntKind.i64.wrap (1 * 2 ^ (min m 64)) = ((2 ^ m : Nat) : Int) ∧ 1 ≤ 2 ^ m ∧ 2 ^ m ≤ 512 := by decide +kernel
  exact this n (by omega)

set_option maxHeartbeats 16000000 in
theorem ht_rmax28 (w : List Int) (nd : List (List Nat)) (bad : List Bool) (g : Gr nd bad) (hw : WOK w) (hl : w.length = nd.length) (hn : nd.length ≤ 9) : HT Try.prog 26 [I w, Gs (nd.map nl)] (fun r => ∃ B M, r = .tup [.osl 1 nd.length (HL.bools B), .int .i64 M] ∧ Best w nd (2 ^ nd.length) B M) := by
  have hnl : (nd.map nl).length = nd.length := by simp
  have h3 : ∀ i, ((nd.map nl).getD i []).length ≤ 9223372036854775807 := fun i => by rw [nl_getD, nl_len]; have := g.len i; omega
  obtain ⟨q, hq, hsu, hss, hq1, hq2⟩ := shl_pow9 nd.length hn
  refine HT.of rfl fc26 (Nat.le_of_ble_eq_true rfl) ?_
  unfold c26
  simp only [Gs, I, argSlots, Nat.reduceAdd]
  rw [hnl, hl]
  obtain ⟨n, hnn⟩ : ∃ n, nd.length = n := ⟨_, rfl⟩
  rw [hnn] at hn hsu hss ⊢
  repeat (first | refine F_mv zT0 rfl ?_ | refine F_nil zT1 ?_ | refine F_lenS (by rfl) ?_ | refine hx_seq ?_ | refine hx_region ?_ | refine hx_block ?_ | refine F_mvnil rfl (by rfl) zT1 ?_ | refine F_mksl zT1 (by rfl) (by omega) (by (try simp only [go_sem]); try rfl) (by (try simp only [go_sem]); try rfl) ?_)
  refine hx_loopG [0, 1, 6, 7, 8] (fun s : Nat × List Bool × Int => s.1 ≤ q ∧ Best w nd s.1 s.2.1 s.2.2)
    (fun s => ⟨[(0, .sl n (HL.ints w)), (1, .sl n (rowsI (nd.map nl))), (6, .ref 0 [] 1 0 n), (7, .int .i64 s.2.2), (8, .int .i64 s.1)], [(0, .osl 1 n (HL.bools s.2.1))], 1⟩)
    (fun s => q - s.1) (0, List.replicate n false, 0) ⟨by simp, hnn ▸ Best.zero⟩ rfl ?_
  rintro ⟨k, B, M⟩ ⟨hk, hB⟩
  simp only at hk hB ⊢
  by_cases hkn : k < q
  · repeat (first | refine F_mv zT0 rfl ?_ | refine F_nil zT1 ?_ | refine F_lss (by rfl) (by rfl) zT6 ?_ | refine F_lenS (by rfl) ?_ | refine hx_true (by rfl) ?_ | refine hx_seq ?_ | refine hx_region ?_ | refine hx_block ?_ | refine hx_skip ?_ | refine F_shl (by rfl) (by rfl) (by omega) (by (try simp (disch := omega) only [go_sem, Int.reduceAdd, Int.reduceSub, Int.reduceMul, hsu, hss]); try rfl) ?_ | refine F_conv (by rfl) (by (try simp (disch := omega) only [go_sem, Int.reduceAdd, Int.reduceSub, Int.reduceMul, hsu, hss]); try rfl) ?_)
    refine F_call (by (try simp only [List.map_cons, List.map_nil]); repeat (first | (apply eL1; · exact zT0) | rfl)) zT2 (ht_setN n k (by omega) (by omega)) ?_
    rintro _ rfl
    refine ⟨zT3, _, _, _, _, _, zT4, (by decide), (by simp only [upF, upS]; try rfl), ?_⟩
    have hXl : (bitsN k n).length = n := bitsN_len _ _
    obtain ⟨X, hX⟩ : ∃ X, bitsN k n = X := ⟨_, rfl⟩
    rw [hX] at hXl ⊢
    have hfX := fits_gr g (hXl.trans hnn.symm)
    have hcl := ht_rclosed (nd.map nl) X (by omega) (by omega) h3
    have hwt := ht_weight w X hw n (by omega) (by omega) hXl
    simp only [Gs, Bl, I] at hcl hwt
    rw [hnl, hXl, hnn] at hcl
    rw [hXl, hl, hnn] at hwt
    repeat (first | refine F_mv zT0 rfl ?_ | refine F_nil zT1 ?_ | refine hx_seq ?_ | refine hx_region ?_)
    refine F_call (by (try simp only [List.map_cons, List.map_nil]); repeat (first | (apply eL1; · exact zT0) | rfl)) zT2 (hcl) ?_
    rintro _ rfl
    refine ⟨zT3, _, _, _, _, _, zT4, (by decide), (by simp only [upF, upS]; try rfl), ?_⟩
    cases hcb : closedB (nd.map nl) X with
    | false =>
      have hno : ¬ ClosedN nd (bitsN k nd.length) := fun h => by
        rw [hnn, hX] at h
        have := (closedB_iff hfX).2 (closedN_Y.2 h)
        rw [hcb] at this; cases this
      repeat (first | refine F_mv zT0 rfl ?_ | refine F_nil zT1 ?_ | refine F_add (by rfl) (by rfl) zT11 ?_ | refine hx_exitS (by rfl) ?_ | refine hx_true (by rfl) ?_ | refine hx_region ?_ | refine F_notF (by rfl) ?_)
      exact hx_lG [0, 1, 6, 7, 8] (k + 1, B, M) ⟨hkn, hB.open hno⟩ (by simp only; omega) rfl
    | true =>
      have hcX : ClosedN nd (bitsN k nd.length) := by rw [hnn, hX]; exact closedN_Y.1 ((closedB_iff hfX).1 hcb)
      have hWb := wS_bd hw X n
      obtain ⟨W, hW⟩ : ∃ W, wS w X n = W := ⟨_, rfl⟩
      rw [hW] at hwt hWb
      have hWn : wS w (bitsN k nd.length) nd.length = W := by rw [hnn, hX, hW]
      repeat (first | refine F_mv zT0 rfl ?_ | refine F_nil zT1 ?_ | refine hx_false (by rfl) ?_ | refine hx_seq ?_ | refine hx_region ?_ | refine hx_skip ?_ | refine F_notT (by rfl) ?_)
      refine F_call (by (try simp only [List.map_cons, List.map_nil]); repeat (first | (apply eL1; · exact zT0) | rfl)) zT2 (hwt) ?_
      rintro _ rfl
      refine ⟨zT3, _, _, _, _, _, zT4, (by decide), (by simp only [upF, upS]; try rfl), ?_⟩
      by_cases h1 : M < W
      · have hnx := hB.more hcX (by rw [hWn]; exact h1)
        rw [hWn, hnn, hX] at hnx
        repeat (first | refine F_mv zT0 rfl ?_ | refine F_nil zT1 ?_ | refine F_add (by rfl) (by rfl) zT11 ?_ | refine hx_true (by rfl) ?_ | refine hx_seq ?_ | refine hx_region ?_ | refine hx_b ?_ | refine F_gtr (by rfl) (by rfl) zT6 ?_)
        exact hx_lG [0, 1, 6, 7, 8] (k + 1, X, W) ⟨hkn, hnx⟩ (by simp only; omega) rfl
      · by_cases h2 : W = M
        · subst h2
          have hBl : B.length = n := by rw [hB.len, hnn]
          repeat (first | refine F_mv zT0 rfl ?_ | refine F_nil zT1 ?_ | refine F_eql (by rfl) (by rfl) (by first | exact eqT (by omega) | exact eqF (by omega) | rfl) ?_ | refine hx_true (by rfl) ?_ | refine hx_false (by rfl) ?_ | refine hx_seq ?_ | refine hx_region ?_ | refine hx_block ?_ | refine F_gtr (by rfl) (by rfl) zT6 ?_)
          refine hx_loopG [0, 1, 6, 7, 8, 9, 11] (fun s : Nat × List Bool => s.1 ≤ n ∧ s.2.length = n ∧ ∀ u : Nat, s.2.getD u false = if u < s.1 then (B.getD u false && X.getD u false) else B.getD u false)
            (fun s => ⟨[(0, .sl n (HL.ints w)), (1, .sl n (rowsI (nd.map nl))), (6, .ref 0 [] 1 0 n), (7, .int .i64 W), (8, .int .i64 k), (9, .ref 1 [] 1 0 n), (11, .int .i64 s.1)], [(0, .osl 1 n (HL.bools s.2)), (1, .osl 1 n (HL.bools X))], 2⟩)
            (fun s => n - s.1) (0, B) ⟨by simp, hBl, fun u => by simp⟩ rfl ?_
          rintro ⟨i, D⟩ ⟨hi, hDl, hD⟩
          simp only at hi hDl hD ⊢
          have hDb : (HL.bools D).length = n := by rw [HL.bools_len, hDl]
          by_cases hin : i < n
          · have hDi := hD i
            rw [if_neg (Nat.lt_irrefl _)] at hDi
            have nxt : ∀ v : Bool, v = (D.getD i false && X.getD i false) → i + 1 ≤ n ∧ (D.set i v).length = n ∧ ∀ u : Nat, (D.set i v).getD u false = if u < i + 1 then (B.getD u false && X.getD u false) else B.getD u false := fun v hv => by
              refine ⟨hin, by rw [List.length_set, hDl], fun u => ?_⟩
              rw [List.getD_eq_getElem?_getD, List.getElem?_set]
              by_cases e : i = u
              · subst e
                rw [if_pos rfl, if_pos (by omega), if_pos (by omega), Option.getD_some, hv, hDi]
              · rw [if_neg e, ← List.getD_eq_getElem?_getD, hD u]
                by_cases h : u < i
                · rw [if_pos h, if_pos (by omega)]
                · rw [if_neg h, if_neg (by omega)]
            cases hdi : D.getD i false with
            | true =>
              cases hxi : X.getD i false with
              | true =>
                repeat (first | refine F_mv zT0 rfl ?_ | refine F_yes (by rfl) (by rfl) ?_ | refine F_iaR (by rfl) (by rfl) (by omega) zT1 ?_ | refine F_ldR (by rfl) (by first | exact eO rfl | exact eW rfl) (by (try simp (disch := omega) only [go_sem, reduceIte, Nat.reduceEqDiff, Nat.reduceAdd, Nat.reduceMul, hdi, hxi]); try rfl) (by (try simp only [go_sem]); first | omega | decide) (by (try simp (disch := omega) only [go_sem, hdi, hxi]); try rfl) zT0 ?_ | refine F_nil zT1 ?_ | refine F_lss (by rfl) (by rfl) zT6 ?_ | refine F_pickT (by rfl) zT0 ?_ | refine F_add (by rfl) (by rfl) (by (try simp (disch := omega) only [go_sem, Int.reduceAdd, Int.reduceSub, Int.reduceMul, hdi, hxi]); try rfl) ?_ | refine F_lenR (by rfl) ?_ | refine hx_true (by rfl) ?_ | refine hx_seq ?_ | refine hx_region ?_ | refine hx_block ?_ | refine hx_b ?_ | refine hx_skip ?_ | refine F_st (by rfl) zT0 (by (try simp only [go_sem]); try rfl) zT10 (by rfl) (by decide) (by first | exact eO rfl | exact eW rfl) (by (try simp only [go_sem]); try rfl) (by (try simp only [go_sem]); first | omega | decide) (by (try simp (disch := omega) only [go_sem, hdi, hxi]); try rfl) (by (try simp only [go_sem]); try rfl) ?_)
                exact hx_lG [0, 1, 6, 7, 8, 9, 11] (i + 1, D.set i true) (nxt true (by rw [hdi, hxi]; rfl)) (by simp only; omega) rfl
              | false =>
                repeat (first | refine F_mv zT0 rfl ?_ | refine F_yes (by rfl) (by rfl) ?_ | refine F_iaR (by rfl) (by rfl) (by omega) zT1 ?_ | refine F_ldR (by rfl) (by first | exact eO rfl | exact eW rfl) (by (try simp (disch := omega) only [go_sem, reduceIte, Nat.reduceEqDiff, Nat.reduceAdd, Nat.reduceMul, hdi, hxi]); try rfl) (by (try simp only [go_sem]); first | omega | decide) (by (try simp (disch := omega) only [go_sem, hdi, hxi]); try rfl) zT0 ?_ | refine F_nil zT1 ?_ | refine F_lss (by rfl) (by rfl) zT6 ?_ | refine F_pickT (by rfl) zT0 ?_ | refine F_add (by rfl) (by rfl) (by (try simp (disch := omega) only [go_sem, Int.reduceAdd, Int.reduceSub, Int.reduceMul, hdi, hxi]); try rfl) ?_ | refine F_lenR (by rfl) ?_ | refine hx_true (by rfl) ?_ | refine hx_seq ?_ | refine hx_region ?_ | refine hx_block ?_ | refine hx_b ?_ | refine hx_skip ?_ | refine F_st (by rfl) zT0 (by (try simp only [go_sem]); try rfl) zT10 (by rfl) (by decide) (by first | exact eO rfl | exact eW rfl) (by (try simp only [go_sem]); try rfl) (by (try simp only [go_sem]); first | omega | decide) (by (try simp (disch := omega) only [go_sem, hdi, hxi]); try rfl) (by (try simp only [go_sem]); try rfl) ?_)
                exact hx_lG [0, 1, 6, 7, 8, 9, 11] (i + 1, D.set i false) (nxt false (by rw [hdi, hxi]; rfl)) (by simp only; omega) rfl
            | false =>
              repeat (first | refine F_mv zT0 rfl ?_ | refine F_no (by rfl) (by rfl) ?_ | refine F_iaR (by rfl) (by rfl) (by omega) zT1 ?_ | refine F_ldR (by rfl) (by first | exact eO rfl | exact eW rfl) (by (try simp (disch := omega) only [go_sem, reduceIte, Nat.reduceEqDiff, Nat.reduceAdd, Nat.reduceMul, hdi]); try rfl) (by (try simp only [go_sem]); first | omega | decide) (by (try simp (disch := omega) only [go_sem, hdi]); try rfl) zT0 ?_ | refine F_nil zT1 ?_ | refine F_lss (by rfl) (by rfl) zT6 ?_ | refine F_pickF (by rfl) zT0 ?_ | refine F_add (by rfl) (by rfl) (by (try simp (disch := omega) only [go_sem, Int.reduceAdd, Int.reduceSub, Int.reduceMul, hdi]); try rfl) ?_ | refine F_lenR (by rfl) ?_ | refine hx_true (by rfl) ?_ | refine hx_seq ?_ | refine hx_region ?_ | refine hx_block ?_ | refine hx_b ?_ | refine hx_skip ?_ | refine F_st (by rfl) zT0 (by (try simp only [go_sem]); try rfl) zT10 (by rfl) (by decide) (by first | exact eO rfl | exact eW rfl) (by (try simp only [go_sem]); try rfl) (by (try simp only [go_sem]); first | omega | decide) (by (try simp (disch := omega) only [go_sem, hdi]); try rfl) (by (try simp only [go_sem]); try rfl) ?_)
              exact hx_lG [0, 1, 6, 7, 8, 9, 11] (i + 1, D.set i false) (nxt false (by rw [hdi]; rfl)) (by simp only; omega) rfl
          · obtain rfl : i = n := by omega
            have hnx := hB.same (D := D) hcX hWn (by rw [hDl, hnn]) (fun u => by
              rw [hD u, hnn, hX]
              split
              · rfl
              · rename_i hu
                rw [List.getD_eq_getElem?_getD, List.getElem?_eq_none (by omega)]; rfl)
            repeat (first | refine F_mv zT0 rfl ?_ | refine F_nil zT1 ?_ | refine F_lss (by rfl) (by rfl) zT6 ?_ | refine F_add (by rfl) (by rfl) zT11 ?_ | refine F_lenR (by rfl) ?_ | refine hx_exitS (by rfl) ?_ | refine hx_false (by rfl) ?_ | refine hx_seq ?_ | refine hx_region ?_ | refine hx_b ?_)
            exact hx_lG [0, 1, 6, 7, 8] (k + 1, D, W) ⟨hkn, hnx⟩ (by simp only; omega) rfl
        · have hnx := hB.less (k := k) (by rw [hWn]; omega)
          repeat (first | refine F_mv zT0 rfl ?_ | refine F_nil zT1 ?_ | refine F_eql (by rfl) (by rfl) (by first | exact eqT (by omega) | exact eqF (by omega) | rfl) ?_ | refine F_add (by rfl) (by rfl) zT11 ?_ | refine hx_false (by rfl) ?_ | refine hx_seq ?_ | refine hx_region ?_ | refine hx_b ?_ | refine hx_skip ?_ | refine F_gtr (by rfl) (by rfl) zT6 ?_)
          exact hx_lG [0, 1, 6, 7, 8] (k + 1, B, M) ⟨hkn, hnx⟩ (by simp only; omega) rfl
  · obtain rfl : k = q := by omega
    repeat (first | refine F_mv zT0 rfl ?_ | refine F_nil zT1 ?_ | refine F_lss (by rfl) (by rfl) zT6 ?_ | refine F_lenS (by rfl) ?_ | refine hx_exitS (by rfl) ?_ | refine hx_false (by rfl) ?_ | refine hx_seq ?_ | refine hx_region ?_ | refine F_shl (by rfl) (by rfl) (by omega) (by (try simp (disch := omega) only [go_sem, Int.reduceAdd, Int.reduceSub, Int.reduceMul, hsu, hss]); try rfl) ?_ | refine F_conv (by rfl) (by (try simp (disch := omega) only [go_sem, Int.reduceAdd, Int.reduceSub, Int.reduceMul, hsu, hss]); try rfl) ?_)
    refine hx_retF (by (try simp only [List.map_cons, List.map_nil]); repeat (first | (apply eL1; · exact zT0) | rfl)) zT5 zT7 ?_
    exact ⟨B, M, rfl, by rw [← hnn, ← hq]; exact hB⟩

end Go.Proofs.Ytkhbiknjkffpjaa
