/-
  OWN WORK. Check of the program and of the reference, for all networks and lists, in the value language.
-/
import Derived.Test.YtkhbiknjkffpjaaFlBad
set_option linter.unusedSimpArgs false
set_option linter.unusedVariables false
namespace Go.Proofs.Ytkhbiknjkffpjaa
open Go.RowKit Go.SL Go.HL

theorem ht_check_bad (n s t : Int) (es : List Edge) (fl : List Int) (hl : es.length ≤ 9223372036854775807) (hbad : ¬ VNet n s t es ∨ fl.length ≠ es.length) : HT Try.prog 50 [.int .i64 n, Es es, .int .i64 s, .int .i64 t, I fl] (fun r => r = .tup [.int .i64 0, .int .i64 1]) := by
  refine HT.of rfl fc50 (Nat.le_of_ble_eq_true rfl) ?_
  unfold c50
  simp only [Es, I, argSlots, Nat.reduceAdd]
  repeat (first | refine F_mv zT0 rfl ?_ | refine F_nil zT1 ?_ | refine hx_seq ?_ | refine hx_region ?_)
  refine F_call (by (try simp only [List.map_cons, List.map_nil]); repeat (first | (apply eL1; · exact zT0) | rfl)) zT2 (ht_valid n s t es hl) ?_
  rintro _ ⟨b, rfl, hb⟩
  cases b with
  | false =>
    refine ⟨zT3, _, _, _, _, _, zT4, (by decide), (by simp only [upF, upS]; try rfl), ?_⟩
    repeat (first | refine F_mv zT0 rfl ?_ | refine F_no (by rfl) (by rfl) ?_ | refine F_nil zT1 ?_ | refine F_pickT (by rfl) zT0 ?_ | refine hx_true (by rfl) ?_ | refine hx_seq ?_ | refine hx_region ?_ | refine F_notF (by rfl) ?_)
    refine hx_retF (by (try simp only [List.map_cons, List.map_nil]); repeat (first | (apply eL1; · exact zT0) | rfl)) zT5 zT7 ?_
    rfl
  | true =>
    have hv := hb.1 rfl
    have hne : ¬ fl.length = es.length := by rcases hbad with h | h; exact absurd hv h; exact h
    refine ⟨zT3, _, _, _, _, _, zT4, (by decide), (by simp only [upF, upS]; try rfl), ?_⟩
    repeat (first | refine F_mv zT0 rfl ?_ | refine F_yes (by rfl) (by rfl) ?_ | refine F_nil zT1 ?_ | refine F_neq (by rfl) (by rfl) (by first | exact neF (by omega) | exact neT (by omega) | rfl) ?_ | refine F_pickF (by rfl) zT0 ?_ | refine F_lenS (by rfl) ?_ | refine hx_true (by rfl) ?_ | refine hx_seq ?_ | refine hx_region ?_ | refine F_notT (by rfl) ?_)
    refine hx_retF (by (try simp only [List.map_cons, List.map_nil]); repeat (first | (apply eL1; · exact zT0) | rfl)) zT5 zT7 ?_
    rfl
theorem ht_rcheck_bad (n s t : Int) (es : List Edge) (fl : List Int) (hl : es.length ≤ 9223372036854775807) (hbad : ¬ VNet n s t es ∨ fl.length ≠ es.length) : HT Try.prog 49 [.int .i64 n, Es es, .int .i64 s, .int .i64 t, I fl] (fun r => r = .tup [.int .i64 0, .int .i64 1]) := by
  refine HT.of rfl fc49 (Nat.le_of_ble_eq_true rfl) ?_
  unfold c49
  simp only [Es, I, argSlots, Nat.reduceAdd]
  repeat (first | refine F_mv zT0 rfl ?_ | refine F_nil zT1 ?_ | refine hx_seq ?_ | refine hx_region ?_)
  refine F_call (by (try simp only [List.map_cons, List.map_nil]); repeat (first | (apply eL1; · exact zT0) | rfl)) zT2 (ht_rvalid n s t es hl) ?_
  rintro _ ⟨b, rfl, hb⟩
  cases b with
  | false =>
    refine ⟨zT3, _, _, _, _, _, zT4, (by decide), (by simp only [upF, upS]; try rfl), ?_⟩
    repeat (first | refine F_mv zT0 rfl ?_ | refine F_no (by rfl) (by rfl) ?_ | refine F_nil zT1 ?_ | refine F_pickT (by rfl) zT0 ?_ | refine hx_true (by rfl) ?_ | refine hx_seq ?_ | refine hx_region ?_ | refine F_notF (by rfl) ?_)
    refine hx_retF (by (try simp only [List.map_cons, List.map_nil]); repeat (first | (apply eL1; · exact zT0) | rfl)) zT5 zT7 ?_
    rfl
  | true =>
    have hv := hb.1 rfl
    have hne : ¬ fl.length = es.length := by rcases hbad with h | h; exact absurd hv h; exact h
    refine ⟨zT3, _, _, _, _, _, zT4, (by decide), (by simp only [upF, upS]; try rfl), ?_⟩
    repeat (first | refine F_mv zT0 rfl ?_ | refine F_yes (by rfl) (by rfl) ?_ | refine F_nil zT1 ?_ | refine F_neq (by rfl) (by rfl) (by first | exact neF (by omega) | exact neT (by omega) | rfl) ?_ | refine F_pickF (by rfl) zT0 ?_ | refine F_lenS (by rfl) ?_ | refine hx_true (by rfl) ?_ | refine hx_seq ?_ | refine hx_region ?_ | refine F_notT (by rfl) ?_)
    refine hx_retF (by (try simp only [List.map_cons, List.map_nil]); repeat (first | (apply eL1; · exact zT0) | rfl)) zT5 zT7 ?_
    rfl

set_option maxHeartbeats 4000000 in
theorem ht_rcheck (n s t : Nat) (es : List Edge) (fl : List Int) (hv : VNet n s t es) (hl : fl.length = es.length) : HT Try.prog 49 [.int .i64 n, Es es, .int .i64 s, .int .i64 t, I fl] (fun r => ∃ x y, r = .tup [.int .i64 x, .int .i64 y] ∧ CheckR n s t es fl x y) := by
  refine HT.of rfl fc49 (Nat.le_of_ble_eq_true rfl) ?_
  unfold c49
  simp only [Es, I, argSlots, Nat.reduceAdd, hl]
  have hle := hv.len
  have hn258 := hv.n258
  repeat (first | refine F_mv zT0 rfl ?_ | refine F_nil zT1 ?_ | refine hx_seq ?_ | refine hx_region ?_)
  refine F_call (by (try simp only [List.map_cons, List.map_nil]); repeat (first | (apply eL1; · exact zT0) | rfl)) zT2 (ht_rvalid n s t es (by omega)) ?_
  rintro _ ⟨b, rfl, hb⟩
  obtain rfl : b = true := hb.2 hv
  refine ⟨zT3, _, _, _, _, _, zT4, (by decide), (by simp only [upF, upS]; try rfl), ?_⟩
  repeat (first | refine F_mv zT0 rfl ?_ | refine F_yes (by rfl) (by rfl) ?_ | refine F_nil zT1 ?_ | refine F_neq (by rfl) (by rfl) (by first | exact neF (by omega) | exact neT (by omega) | rfl) ?_ | refine F_pickF (by rfl) zT0 ?_ | refine F_lenS (by rfl) ?_ | refine hx_false (by rfl) ?_ | refine hx_seq ?_ | refine hx_region ?_ | refine hx_block ?_ | refine hx_skip ?_ | refine F_notT (by rfl) ?_ | refine F_mksl zT1 (by rfl) (by omega) (by (try simp only [go_sem]); try rfl) (by (try simp only [go_sem]); try rfl) ?_)
  refine hx_loopG [0, 1, 2, 3, 4, 12, 13] (fun k : Nat => k ≤ es.length ∧ okTo es fl k) (fun k => ⟨[(0, .int .i64 n), (1, .sl es.length (edges es)), (2, .int .i64 s), (3, .int .i64 t), (4, .sl es.length (HL.ints fl)), (12, .ref 0 [] 1 0 n), (13, .int .i64 k)], [(0, .osl 1 n (HL.ints (nets n es fl k)))], 1⟩) (fun k => es.length - k) 0 ⟨by omega, fun j hj => by omega⟩ rfl ?_
  rintro k ⟨hk, hok⟩
  have hnl := nets_len n es fl k
  by_cases hkl : k < es.length
  · have hg : es.getD k default = es[k] := by simp [hkl]
    obtain ⟨v1, v2, v3, v4, v5, v6, v7⟩ := hv.all _ (List.getElem_mem hkl)
    rw [← hg] at v1 v2 v3 v4 v5 v6 v7
    by_cases h0 : fl.getD k 0 < 0
    · have hno : ¬ okTo es fl es.length := fun h => by have := h k hkl; omega
      repeat (first | refine F_mv zT0 rfl ?_ | refine F_nil zT1 ?_ | refine F_lss (by rfl) (by rfl) zT6 ?_ | refine F_lenS (by rfl) ?_ | refine hx_true (by rfl) ?_ | refine hx_seq ?_ | refine hx_region ?_ | refine hx_block ?_ | refine hx_skip ?_)
      refine hx_draw (by kernel_rfl) (by kernel_rfl) (fun _ _ _ => False) ?_
      repeat (first | refine F_mv zT0 rfl ?_ | refine F_no (by rfl) (by rfl) ?_ | refine F_iaS (by rfl) (by rfl) (by omega) zT1 ?_ | refine F_ldP (by rfl) (by (try simp only [go_sem]); first | omega | decide) (by (try simp (disch := omega) only [go_sem]); try rfl) ?_ | refine F_nil zT1 ?_ | refine F_lss (by rfl) (by rfl) zT6 ?_ | refine F_pickT (by rfl) zT0 ?_ | refine hx_true (by rfl) ?_ | refine hx_seq ?_ | refine hx_region ?_)
      refine hx_retF (by (try simp only [List.map_cons, List.map_nil]); repeat (first | (apply eL1; · exact zT0) | rfl)) zT5 zT7 ?_
      exact ⟨0, 5, rfl, .inl ⟨hno, rfl, rfl⟩⟩
    · by_cases h1 : (es.getD k default).c < fl.getD k 0
      · have hno : ¬ okTo es fl es.length := fun h => by have := h k hkl; omega
        repeat (first | refine F_mv zT0 rfl ?_ | refine F_nil zT1 ?_ | refine F_lss (by rfl) (by rfl) zT6 ?_ | refine F_lenS (by rfl) ?_ | refine hx_true (by rfl) ?_ | refine hx_seq ?_ | refine hx_region ?_ | refine hx_block ?_ | refine hx_skip ?_)
        refine hx_draw (by kernel_rfl) (by kernel_rfl) (fun _ _ _ => False) ?_
        repeat (first | refine F_mv zT0 rfl ?_ | refine F_yes (by rfl) (by rfl) ?_ | refine F_iaS (by rfl) (by rfl) (by omega) zT1 ?_ | refine F_ldP (by rfl) (by (try simp only [go_sem]); first | omega | decide) (by (try simp (disch := omega) only [go_sem]); try rfl) ?_ | refine F_nil zT1 ?_ | refine F_lss (by rfl) (by rfl) zT6 ?_ | refine F_pickF (by rfl) zT0 ?_ | refine hx_true (by rfl) ?_ | refine hx_seq ?_ | refine hx_region ?_ | refine F_gtr (by rfl) (by rfl) zT6 ?_ | refine F_faP (by rfl) (by rfl) ?_)
        refine hx_retF (by (try simp only [List.map_cons, List.map_nil]); repeat (first | (apply eL1; · exact zT0) | rfl)) zT5 zT7 ?_
        exact ⟨0, 5, rfl, .inl ⟨hno, rfl, rfl⟩⟩
      · have hok2 : okTo es fl (k + 1) := fun j hj => by
          rcases Nat.lt_or_ge j k with h2 | h2
          · exact hok j h2
          · obtain rfl : j = k := by omega
            omega
        have hbd : ∀ i : Nat, i < n → -72057594037927936 ≤ (nets n es fl k).getD i 0 ∧ (nets n es fl k).getD i 0 ≤ 72057594037927936 := fun i hi => by
          have := nets_bd n es fl k (fun e he => (hv.all e he).2.2.2.2.2.2) hk hok ((nets n es fl k).getD i 0) (by
            rw [List.getD_eq_getElem?_getD, List.getElem?_eq_getElem (by omega)]; exact List.getElem_mem _)
          omega
        have hbf := hbd (es.getD k default).f.toNat (by omega)
        have hbt := hbd (es.getD k default).t.toNat (by omega)
        have hset : ((nets n es fl k).set (es.getD k default).f.toNat ((nets n es fl k).getD (es.getD k default).f.toNat 0 + fl.getD k 0)).getD (es.getD k default).t.toNat 0 = (nets n es fl k).getD (es.getD k default).t.toNat 0 := by
          rw [getD_setI _ _ _ _ (by omega), if_neg (by omega)]
        rw [← hset] at hbt
        have hl2 : ((nets n es fl k).set (es.getD k default).f.toNat ((nets n es fl k).getD (es.getD k default).f.toNat 0 + fl.getD k 0)).length = n := by rw [List.length_set]; exact hnl
        repeat (first | refine F_mv zT0 rfl ?_ | refine F_nil zT1 ?_ | refine F_lss (by rfl) (by rfl) zT6 ?_ | refine F_lenS (by rfl) ?_ | refine hx_true (by rfl) ?_ | refine hx_seq ?_ | refine hx_region ?_ | refine hx_block ?_ | refine hx_skip ?_)
        refine hx_draw (by kernel_rfl) (by kernel_rfl) (fun _ _ _ => False) ?_
        repeat (first | refine F_mv zT0 rfl ?_ | refine F_yes (by rfl) (by rfl) ?_ | refine F_iaS (by rfl) (by rfl) (by omega) zT1 ?_ | refine F_ldP (by rfl) (by (try simp only [go_sem]); first | omega | decide) (by (try simp (disch := omega) only [go_sem]); try rfl) ?_ | refine F_nil zT1 ?_ | refine F_lss (by rfl) (by rfl) zT6 ?_ | refine F_pickF (by rfl) zT0 ?_ | refine hx_false (by rfl) ?_ | refine hx_seq ?_ | refine hx_skip ?_ | refine F_gtr (by rfl) (by rfl) zT6 ?_ | refine F_faP (by rfl) (by rfl) ?_)
        refine hx_draw (by kernel_rfl) (by kernel_rfl) (fun _ _ _ => False) ?_
        repeat (first | refine F_mv zT0 rfl ?_ | refine F_iaS (by rfl) (by rfl) (by omega) zT1 ?_ | refine F_iaR (by rfl) (by rfl) (by omega) zT1 ?_ | refine F_ldP (by rfl) (by (try simp only [go_sem]); first | omega | decide) (by (try simp (disch := omega) only [go_sem]); try rfl) ?_ | refine F_ldR (by rfl) (by first | exact eO rfl | exact eW rfl) (by (try simp only [go_sem]); try rfl) (by (try simp only [go_sem]); first | omega | decide) (by (try simp (disch := omega) only [go_sem]); try rfl) zT0 ?_ | refine F_nil zT1 ?_ | refine F_add (by rfl) (by rfl) zT11 ?_ | refine F_faP (by rfl) (by rfl) ?_ | refine F_st (by rfl) zT0 (by (try simp only [go_sem]); try rfl) zT10 (by rfl) (by decide) (by first | exact eO rfl | exact eW rfl) (by (try simp only [go_sem]); try rfl) (by (try simp only [go_sem]); first | omega | decide) (by (try simp (disch := omega) only [go_sem]); try rfl) (by (try simp only [go_sem]); try rfl) ?_)
        refine hx_draw (by kernel_rfl) (by kernel_rfl) (fun _ _ _ => False) ?_
        repeat (first | refine F_mv zT0 rfl ?_ | refine F_iaS (by rfl) (by rfl) (by omega) zT1 ?_ | refine F_iaR (by rfl) (by rfl) (by omega) zT1 ?_ | refine F_ldP (by rfl) (by (try simp only [go_sem]); first | omega | decide) (by (try simp (disch := omega) only [go_sem]); try rfl) ?_ | refine F_ldR (by rfl) (by first | exact eO rfl | exact eW rfl) (by (try simp only [go_sem]); try rfl) (by (try simp only [go_sem]); first | omega | decide) (by (try simp (disch := omega) only [go_sem]); try rfl) zT0 ?_ | refine F_nil zT1 ?_ | refine F_add (by rfl) (by rfl) zT11 ?_ | refine hx_region ?_ | refine hx_b ?_ | refine F_sub (by rfl) (by rfl) zT11 ?_ | refine F_faP (by rfl) (by rfl) ?_ | refine F_st (by rfl) zT0 (by (try simp only [go_sem]); try rfl) zT10 (by rfl) (by decide) (by first | exact eO rfl | exact eW rfl) (by (try simp only [go_sem]); try rfl) (by (try simp only [go_sem]); first | omega | decide) (by (try simp (disch := omega) only [go_sem]); try rfl) (by (try simp only [go_sem]); try rfl) ?_)
        exact hx_lG [0, 1, 2, 3, 4, 12, 13] (k + 1) ⟨hkl, hok2⟩ (by omega) rfl
  · obtain rfl : k = es.length := by omega
    repeat (first | refine F_mv zT0 rfl ?_ | refine F_nil zT1 ?_ | refine F_lss (by rfl) (by rfl) zT6 ?_ | refine F_lenS (by rfl) ?_ | refine hx_exitS (by rfl) ?_ | refine hx_false (by rfl) ?_ | refine hx_seq ?_ | refine hx_region ?_ | refine hx_block ?_)
    refine hx_loopG [0, 2, 3, 12, 14] (fun k : Nat => k ≤ n ∧ ¬ oddTo s t (nets n es fl es.length) k) (fun k => ⟨[(0, .int .i64 n), (2, .int .i64 s), (3, .int .i64 t), (12, .ref 0 [] 1 0 n), (14, .int .i64 k)], [(0, .osl 1 n (HL.ints (nets n es fl es.length)))], 1⟩) (fun k => n - k) 0 ⟨by omega, fun ⟨v, h, _⟩ => by omega⟩ rfl ?_
    rintro k ⟨hk2, hodd⟩
    have hsn := hv.sn
    by_cases hkn : k < n
    · have up : ((k : Int) = s ∨ (k : Int) = t ∨ (nets n es fl es.length).getD k 0 = 0) → ¬ oddTo s t (nets n es fl es.length) (k + 1) := by
        rintro h ⟨v, h1, h2, h3, h4⟩
        rcases Nat.lt_or_ge v k with h5 | h5
        · exact hodd ⟨v, h5, h2, h3, h4⟩
        · obtain rfl : v = k := by omega
          rcases h with h | h | h
          · exact h2 h
          · exact h3 h
          · exact h4 h
      by_cases e1 : (k : Int) = s
      · have hup := up (.inl e1)
        repeat (first | refine F_mv zT0 rfl ?_ | refine F_no (by rfl) (by rfl) ?_ | refine F_nil zT1 ?_ | refine F_lss (by rfl) (by rfl) zT6 ?_ | refine F_neq (by rfl) (by rfl) (by first | exact neF (by omega) | exact neT (by omega) | rfl) ?_ | refine F_pickF (by rfl) zT0 ?_ | refine F_add (by rfl) (by rfl) zT11 ?_ | refine hx_true (by rfl) ?_ | refine hx_false (by rfl) ?_ | refine hx_seq ?_ | refine hx_region ?_ | refine hx_block ?_ | refine hx_b ?_ | refine hx_skip ?_)
        exact hx_lG [0, 2, 3, 12, 14] (k + 1) ⟨hkn, hup⟩ (by omega) rfl
      · by_cases e2 : (k : Int) = t
        · have hup := up (.inr (.inl e2))
          repeat (first | refine F_mv zT0 rfl ?_ | refine F_yes (by rfl) (by rfl) ?_ | refine F_no (by rfl) (by rfl) ?_ | refine F_nil zT1 ?_ | refine F_lss (by rfl) (by rfl) zT6 ?_ | refine F_neq (by rfl) (by rfl) (by first | exact neF (by omega) | exact neT (by omega) | rfl) ?_ | refine F_pickT (by rfl) zT0 ?_ | refine F_pickF (by rfl) zT0 ?_ | refine F_add (by rfl) (by rfl) zT11 ?_ | refine hx_true (by rfl) ?_ | refine hx_false (by rfl) ?_ | refine hx_seq ?_ | refine hx_region ?_ | refine hx_block ?_ | refine hx_b ?_ | refine hx_skip ?_)
          exact hx_lG [0, 2, 3, 12, 14] (k + 1) ⟨hkn, hup⟩ (by omega) rfl
        · by_cases e3 : (nets n es fl es.length).getD k 0 = 0
          · have hup := up (.inr (.inr e3))
            repeat (first | refine F_mv zT0 rfl ?_ | refine F_yes (by rfl) (by rfl) ?_ | refine F_iaR (by rfl) (by rfl) (by omega) zT1 ?_ | refine F_ldR (by rfl) (by first | exact eO rfl | exact eW rfl) (by (try simp only [go_sem]); try rfl) (by (try simp only [go_sem]); first | omega | decide) (by (try simp (disch := omega) only [go_sem]); try rfl) zT0 ?_ | refine F_nil zT1 ?_ | refine F_lss (by rfl) (by rfl) zT6 ?_ | refine F_neq (by rfl) (by rfl) (by first | exact neF (by omega) | exact neT (by omega) | rfl) ?_ | refine F_pickT (by rfl) zT0 ?_ | refine F_add (by rfl) (by rfl) zT11 ?_ | refine hx_true (by rfl) ?_ | refine hx_false (by rfl) ?_ | refine hx_seq ?_ | refine hx_region ?_ | refine hx_block ?_ | refine hx_b ?_ | refine hx_skip ?_)
            exact hx_lG [0, 2, 3, 12, 14] (k + 1) ⟨hkn, hup⟩ (by omega) rfl
          · repeat (first | refine F_mv zT0 rfl ?_ | refine F_yes (by rfl) (by rfl) ?_ | refine F_iaR (by rfl) (by rfl) (by omega) zT1 ?_ | refine F_ldR (by rfl) (by first | exact eO rfl | exact eW rfl) (by (try simp only [go_sem]); try rfl) (by (try simp only [go_sem]); first | omega | decide) (by (try simp (disch := omega) only [go_sem]); try rfl) zT0 ?_ | refine F_nil zT1 ?_ | refine F_lss (by rfl) (by rfl) zT6 ?_ | refine F_neq (by rfl) (by rfl) (by first | exact neF (by omega) | exact neT (by omega) | rfl) ?_ | refine F_pickT (by rfl) zT0 ?_ | refine hx_true (by rfl) ?_ | refine hx_seq ?_ | refine hx_region ?_ | refine hx_block ?_ | refine hx_skip ?_)
            refine hx_retF (by (try simp only [List.map_cons, List.map_nil]); repeat (first | (apply eL1; · exact zT0) | rfl)) zT5 zT7 ?_
            exact ⟨0, 24, rfl, .inr (.inl ⟨hok, ⟨k, hkn, e1, e2, e3⟩, rfl, rfl⟩)⟩
    · obtain rfl : n = k := by omega
      repeat (first | refine F_mv zT0 rfl ?_ | refine F_iaR (by rfl) (by rfl) (by omega) zT1 ?_ | refine F_ldR (by rfl) (by first | exact eO rfl | exact eW rfl) (by (try simp only [go_sem]); try rfl) (by (try simp only [go_sem]); first | omega | decide) (by (try simp (disch := omega) only [go_sem]); try rfl) zT0 ?_ | refine F_nil zT1 ?_ | refine F_lss (by rfl) (by rfl) zT6 ?_ | refine hx_exitS (by rfl) ?_ | refine hx_false (by rfl) ?_ | refine hx_seq ?_ | refine hx_region ?_)
      refine hx_retF (by (try simp only [List.map_cons, List.map_nil]); repeat (first | (apply eL1; · exact zT0) | rfl)) zT5 zT7 ?_
      exact ⟨_, 0, rfl, .inr (.inr ⟨hok, hodd, rfl, rfl⟩)⟩

end Go.Proofs.Ytkhbiknjkffpjaa
