/-
  OWN WORK. The law ClosureCuts in the value language.
-/
import Derived.Test.YtkhbiknjkffpjaaCodesClosureCuts
import Derived.Test.YtkhbiknjkffpjaaClMax
import Derived.Test.YtkhbiknjkffpjaaClLiv
import Derived.Test.YtkhbiknjkffpjaaClSm
import Derived.Test.YtkhbiknjkffpjaaClGr
import Derived.Test.YtkhbiknjkffpjaaGrRank
set_option linter.unusedSimpArgs false
set_option linter.unusedVariables false
namespace Go.Proofs.Ytkhbiknjkffpjaa
open Go.RowKit Go.SL Go.HL

/-- The grounded nodes. -/
def grnd (rank : List Int) (i : Nat) : List Bool := (List.range i).map fun u => decide (0 ≤ rank.getD u 0)
theorem grnd_len (rank : List Int) (i : Nat) : (grnd rank i).length = i := by simp [grnd]
theorem grnd_succ (rank : List Int) (i : Nat) : grnd rank (i + 1) = grnd rank i ++ [decide (0 ≤ rank.getD i 0)] := by simp [grnd, List.range_succ]
theorem grnd_closed {nd : List (List Nat)} {bad : List Bool} {rank : List Int} (g : Gr nd bad) (hR : IsRank nd bad rank) : ClosedX (nd.map nl) (grnd rank nd.length) := by
  have hg : ∀ u, (grnd rank nd.length).getD u false = true ↔ u < nd.length ∧ 0 ≤ rank.getD u 0 := fun u => by
    by_cases h : u < nd.length
    · simp [grnd, h]
    · rw [List.getD_eq_getElem?_getD, List.getElem?_eq_none (by rw [grnd_len]; omega)]
      simp; omega
  intro u hu j hj
  rw [hg] at hu
  rw [nl_getD] at hj
  obtain ⟨k, hk, rfl⟩ := List.mem_map.1 hj
  have := (hR.in_ u hu.1 hu.2).2.1 k hk
  rw [hg]
  exact ⟨by simpa using g.lt u k hk, by simpa using this.1⟩
theorem hull_selfC {g : List (List Int)} {X : List Bool} (h : ClosedX g X) : IsHull g X X := ⟨rfl, fun _ h => h, h, fun _ _ h => h⟩

set_option maxHeartbeats 16000000 in
theorem ht_lawCuts (l m : List Int) (size : Int) (hl : l.length ≤ 9223372036854775807) (hlr : ∀ k, k < l.length → -9223372036854775808 ≤ l.getD k 0 ∧ l.getD k 0 ≤ 9223372036854775807) (hm : m.length ≤ 9223372036854775807) (hmr : ∀ k, k < m.length → -9223372036854775808 ≤ m.getD k 0 ∧ m.getD k 0 ≤ 9223372036854775807)
    (hs : -9223372036854775808 ≤ size ∧ size ≤ 9223372036854775807) :
    HT Try.prog 10 [I l, I m, .int .i64 size] (fun r => r = .bool true) := by
  refine HT.of rfl fc10 (Nat.le_of_ble_eq_true rfl) ?_
  unfold c10
  simp only [I, argSlots, Nat.reduceAdd]
  repeat (first | refine F_mv zT0 rfl ?_ | refine F_nil zT1 ?_ | refine hx_seq ?_ | refine hx_region ?_)
  refine F_call (by (try simp only [List.map_cons, List.map_nil]); repeat (first | (apply eL1; · exact zT0) | rfl)) zT2 (ht_around size 31 (by omega) (by omega) hs.1 hs.2) ?_
  rintro _ ⟨y, rfl, hy⟩
  refine ⟨zT3, _, _, _, _, _, zT4, (by decide), (by simp only [upF, upS]; try rfl), ?_⟩
  skip
  refine F_call (by (try simp only [List.map_cons, List.map_nil]); repeat (first | (apply eL1; · exact zT0) | rfl)) zT2 (ht_gbig l y (by omega) hl) ?_
  rintro _ ⟨nd, bad, rfl, hny, g, hd3⟩
  refine ⟨zT3, _, _, _, _, _, zT4, (by decide), (by simp only [upF, upS]; try rfl), ?_⟩
  subst hny
  have hbl := g.bads
  have hsz := g.size
  have hnl : (nd.map nl).length = nd.length := by simp
  have hE : stripL (win (rowsO nd) 0 (nd.length * 1)) = rowsI (nd.map nl) := by rw [rowsO_win _ (by omega), rowsO_strip]
  have h3 : ∀ i, ((nd.map nl).getD i []).length ≤ 9223372036854775807 := fun i => by rw [nl_getD, nl_len]; have := g.len i; omega
  repeat (first | refine F_mv zT0 rfl ?_ | refine F_nil zT1 ?_ | refine F_ext (by rfl) (by (try simp only [go_sem]); first | omega | decide) zT0 ?_)
  refine hx_dropN [1, 7, 8] (⟨[(1, .sl m.length (HL.ints m)), (7, .ref 0 [] 1 0 nd.length), (8, .ref 1 [] 1 0 nd.length)], [(0, .osl 1 nd.length (rowsO nd)), (1, .osl 1 nd.length (HL.bools bad))], 2⟩ : St) rfl ?_
  refine hx_freezeN 0 [1, 7, 8] _ (congrArg (fun c : List HV => (⟨[(1, .sl m.length (HL.ints m)), (7, .sl nd.length c), (8, .ref 0 [] 1 0 nd.length)], [(0, .osl 1 nd.length (HL.bools bad))], 1⟩ : St)) hE) ?_
  repeat (first | refine F_mv zT0 rfl ?_ | refine F_lenS (by rfl) ?_ | refine hx_seq ?_ | refine hx_region ?_)
  refine F_call (by (try simp only [List.map_cons, List.map_nil]); repeat (first | (apply eL1; · exact zT0) | rfl)) zT2 (ht_weights m nd.length (by omega) hm hmr) ?_
  rintro _ ⟨w, rfl, hwl, hw⟩
  refine ⟨zT3, _, _, _, _, _, zT4, (by decide), (by simp only [upF, upS]; try rfl), ?_⟩
  have hNl := netE_len g w
  have hN2 : nd.length * nd.length ≤ 256 * 256 := Nat.mul_le_mul hsz hsz
  have hv := netE_okN g hw
  have hmx := ht_cmax w nd bad g hw hwl
  have hnt := ht_cnet w nd bad g hw hwl
  have hct := ht_cut (nd.length + 2) nd.length (nd.length + 1) (netE w nd) hv
  simp only [I, Gs] at hmx hnt
  rw [hnl, hwl] at hmx hnt
  simp only [Es, Int.natCast_add, Int.cast_ofNat_Int] at hct
  have h22 : (nd.length : Int) + 2 - 2 = nd.length := by omega
  have h21 : (nd.length : Int) + 2 - 1 = (nd.length : Int) + 1 := by omega
  repeat (first | refine F_mv zT0 rfl ?_ | refine F_nil zT1 ?_ | refine hx_seq ?_ | refine hx_region ?_)
  refine F_call (by (try simp only [List.map_cons, List.map_nil]); repeat (first | (apply eL1; · exact zT0) | rfl)) zT2 (hmx) ?_
  rintro _ ⟨fl, set, value, rfl, hM, hF, hval⟩
  refine ⟨zT3, _, _, _, _, _, zT4, (by decide), (by simp only [upF, upS]; try rfl), ?_⟩
  repeat (first | refine F_mv zT0 rfl ?_ | refine F_nil zT1 ?_ | refine F_ext (by rfl) (by (try simp only [go_sem]); first | omega | decide) zT0 ?_ | refine hx_seq ?_ | refine hx_region ?_)
  refine F_call (by (try simp only [List.map_cons, List.map_nil]); repeat (first | (apply eL1; · exact zT0) | rfl)) zT2 (hnt) ?_
  rintro _ rfl
  refine ⟨zT3, _, _, _, _, _, zT4, (by decide), (by simp only [upF, upS]; try rfl), ?_⟩
  repeat (first | refine F_mv zT0 rfl ?_ | refine F_yes (by rfl) (by rfl) ?_ | refine F_nil zT1 ?_ | refine F_neq (by rfl) (by rfl) (by first | exact neF (by omega) | exact neT (by omega) | rfl) ?_ | refine F_pickF (by rfl) zT0 ?_ | refine F_add (by rfl) (by rfl) (by (try simp (disch := omega) only [go_sem, Int.reduceAdd, Int.reduceSub, Int.reduceMul, h22, h21]); try rfl) ?_ | refine F_ext (by rfl) (by (try simp only [go_sem]); first | omega | decide) zT0 ?_ | refine F_lenR (by rfl) ?_ | refine F_lenS (by rfl) ?_ | refine hx_false (by rfl) ?_ | refine hx_seq ?_ | refine hx_region ?_ | refine hx_skip ?_ | refine F_sub (by rfl) (by rfl) (by (try simp (disch := omega) only [go_sem, Int.reduceAdd, Int.reduceSub, Int.reduceMul, h22, h21]); try rfl) ?_)
  refine F_call (by (try simp only [List.map_cons, List.map_nil]); repeat (first | (apply eL1; · exact zT0) | rfl)) zT2 (hct) ?_
  rintro _ ⟨fl2, set2, v2, rfl, hF2⟩
  have hv1 := hF.val_eq hv hF2
  have hs1 := hF.set_eq hv hF2
  subst hv1 hs1
  have hsl := hF.cut.len
  have hsl2 : set.length = nd.length + 2 := by omega
  have hsrc := hF.cut.src
  have hsnk := hF.cut.snk
  rw [Int.toNat_natCast] at hsrc
  rw [show ((nd.length : Int) + 1).toNat = nd.length + 1 by omega] at hsnk
  unfold ins at hsrc hsnk
  have hacr : acrossW ((nd.length : Int) + 2) (netE w nd) set = value := by unfold acrossW; rw [if_pos (by omega), acrW_capS hv]; exact hF.cap
  have hac := ht_across ((nd.length : Int) + 2) (netE w nd) set (by omega) (by omega)
  rw [hacr] at hac
  simp only [Es, Bl] at hac
  rw [hsl2] at hac
  have htk : win (HL.bools set) 0 (nd.length * 1) = HL.bools (set.take nd.length) := by
    unfold win
    rw [if_neg (by rw [HL.bools_len]; omega)]
    simp [HL.bools, List.map_take]
  have htk2 : win (HL.bools set) 0 nd.length = HL.bools (set.take nd.length) := by simpa using htk
  generalize hS : set.take nd.length = S at hM hval htk htk2
  have hSl := hM.len
  have hsm := ht_same S S (by omega) (by omega)
  rw [decide_eq_true rfl] at hsm
  simp only [Bl] at hsm
  rw [hSl] at hsm
  have hto2 : ((nd.length : Int) + 2 - 2).toNat = nd.length := by omega
  have hto1 : ((nd.length : Int) + 1).toNat = nd.length + 1 := by omega
  refine ⟨zT3, _, _, _, _, _, zT4, (by decide), (by simp only [upF, upS]; try rfl), ?_⟩
  repeat (first | refine F_mv zT0 rfl ?_ | refine F_nil zT1 ?_ | refine F_ext (by rfl) (by (try simp only [go_sem]); first | omega | decide) zT0 ?_ | refine hx_seq ?_ | refine hx_region ?_)
  have hgr := ht_grank nd bad g
  simp only [Gs, Bl] at hgr
  rw [hnl, hbl] at hgr
  refine F_call (by (try simp only [List.map_cons, List.map_nil]); repeat (first | (apply eL1; · exact zT0) | rfl)) zT2 (hgr) ?_
  rintro _ ⟨rank, rfl, hR⟩
  have hrl := hR.len
  refine ⟨zT3, _, _, _, _, _, zT4, (by decide), (by simp only [upF, upS]; try rfl), ?_⟩
  repeat (first | refine F_mv zT0 rfl ?_ | refine F_yes (by rfl) (by rfl) ?_ | refine F_iaR (by rfl) (by rfl) (by omega) zT1 ?_ | refine F_ldR (by rfl) (by first | exact eO rfl | exact eW rfl) (by (try simp (disch := omega) only [go_sem, reduceIte, Nat.reduceEqDiff, Nat.reduceAdd, Nat.reduceMul, h22, h21, hto2, hto1, hsrc, hsnk]); try rfl) (by (try simp only [go_sem]); first | omega | decide) (by (try simp (disch := omega) only [go_sem, h22, h21, hto2, hto1, hsrc, hsnk]); try rfl) zT0 ?_ | refine F_nil zT1 ?_ | refine F_neq (by rfl) (by rfl) (by first | exact neF (by omega) | exact neT (by omega) | rfl) ?_ | refine F_pickF (by rfl) zT0 ?_ | refine F_lenR (by rfl) ?_ | refine F_lenS (by rfl) ?_ | refine hx_seq ?_ | refine hx_region ?_ | refine F_sub (by rfl) (by rfl) (by (try simp (disch := omega) only [go_sem, Int.reduceAdd, Int.reduceSub, Int.reduceMul, h22, h21, hto2, hto1, hsrc, hsnk]); try rfl) ?_ | refine F_notT (by rfl) ?_ | refine F_slcR (by rfl) (by rfl) (by rfl) (by omega) (by (try simp only [go_sem]); try rfl) zT1 ?_)
  refine F_call (by (try simp only [List.map_cons, List.map_nil]); repeat (first | (apply eL1; · exact zT0) | rfl)) (by simp (disch := omega) only [thawL, h22, hto2, htk, htk2, HV.thaw, allIds, aget, nget, if_true, if_false, reduceIte, Nat.reduceEqDiff, stripL, HV.strip, win_intsE, win_boolsE, win_edgesE, Nat.mul_one, List.cons_append, List.nil_append, List.append_nil, I, Bl, T3, Es, List.getD_cons_zero, List.getD_cons_succ, HL.ints_strip, HL.bools_strip, trip_strip, edges_strip]; try rfl) (hsm) ?_
  rintro _ rfl
  refine ⟨zT3, _, _, _, _, _, zT4, (by decide), (by simp only [upF, upS]; try rfl), ?_⟩
  repeat (first | refine F_mv zT0 rfl ?_ | refine F_yes (by rfl) (by rfl) ?_ | refine F_nil zT1 ?_ | refine F_pickF (by rfl) zT0 ?_ | refine hx_false (by rfl) ?_ | refine hx_seq ?_ | refine hx_region ?_ | refine hx_block ?_ | refine hx_skip ?_ | refine F_mvnil rfl (by rfl) zT1 ?_ | refine F_notT (by rfl) ?_)
  refine hx_loopG [7, 9, 11, 14, 15, 16, 18, 19, 20, 21] (fun s : Nat × List Bool => s.1 ≤ nd.length ∧ s.2 = grnd rank s.1)
    (fun s => ⟨[(7, .sl nd.length (rowsI (nd.map nl))), (9, .ref 0 [] 1 0 nd.length), (11, .int .i64 (wS w S nd.length)), (14, .int .i64 ((nd.length : Int) + 2)), (15, .ref 1 [] 3 0 (netE w nd).length), (16, .ref 2 [] 1 0 (nd.length + 2)), (18, .ref 3 [] 1 0 nd.length), (19, .int .i64 (posS w s.1)), (20, .ref 4 [] 1 0 s.1), (21, .int .i64 s.1)], [(0, .osl 1 nd.length (HL.ints w)), (1, .osl 3 (netE w nd).length (edges (netE w nd))), (2, .osl 1 (nd.length + 2) (HL.bools set)), (3, .osl 1 nd.length (HL.ints rank)), (4, .osl 1 s.1 (HL.bools s.2))], 5⟩)
    (fun s => nd.length - s.1) (0, []) ⟨by simp, rfl⟩ rfl ?_
  rintro ⟨i, P⟩ ⟨hi, hP⟩
  simp only at hi hP ⊢
  have hPn : P.length = i := by rw [hP, grnd_len]
  have hPl : (HL.bools P).length = i := by rw [HL.bools_len, hPn]
  have hpb := posS_bd hw i
  have hsnoc : ∀ z : Bool, HL.bools P ++ [HV.bool z] = HL.bools (P ++ [z]) := fun z => by simp [HL.bools]
  by_cases hin : i < nd.length
  · obtain ⟨x, hxe⟩ : ∃ x, w.getD i 0 = x := ⟨_, rfl⟩
    have hxw := hw i
    rw [hxe] at hxw
    have hps : posS w (i + 1) = posS w i + max 0 x := by rw [← hxe]; rfl
    have hgs := grnd_succ rank i
    rw [← hP] at hgs
    by_cases h0 : 0 < x
    · have hps2 : posS w i + x = posS w (i + 1) := by omega
      by_cases hr0 : 0 ≤ rank.getD i 0
      · rw [decide_eq_true hr0] at hgs
        repeat (first | refine F_mv zT0 rfl ?_ | refine F_iaR (by rfl) (by rfl) (by omega) zT1 ?_ | refine F_ldR (by rfl) (by first | exact eO rfl | exact eW rfl) (by (try simp (disch := omega) only [go_sem, reduceIte, Nat.reduceEqDiff, Nat.reduceAdd, Nat.reduceMul, hxe, hsnoc, hps2]); try rfl) (by (try simp only [go_sem]); first | omega | decide) (by (try simp (disch := omega) only [go_sem, hxe, hsnoc, hps2]); try rfl) zT0 ?_ | refine F_nil zT1 ?_ | refine F_lss (by rfl) (by rfl) zT6 ?_ | refine F_add (by rfl) (by rfl) (by (try simp (disch := omega) only [go_sem, Int.reduceAdd, Int.reduceSub, Int.reduceMul, hxe, hsnoc, hps2]); try rfl) ?_ | refine F_lenS (by rfl) ?_ | refine hx_true (by rfl) ?_ | refine hx_seq ?_ | refine hx_region ?_ | refine hx_block ?_ | refine hx_b ?_ | refine hx_skip ?_ | refine F_geq (by rfl) (by rfl) (by first | exact leT (by omega) | exact leF (by omega) | rfl) ?_ | refine F_bsl zT1 (by (try simp only [List.map_cons, List.map_nil]); repeat (first | (apply eL1; · exact zT0) | rfl)) (by (try simp only [go_sem]); try rfl) zT10 (by rfl) (by rfl) ?_ | refine F_mm (by rfl) (by rfl) (by (try simp only [go_sem, reduceIte, hxe, hsnoc, hps2]); try rfl) ?_ | refine F_appR zT1 (by rfl) zT0 zT9 (by (try simp (disch := omega) only [go_sem, reduceIte, Nat.reduceEqDiff, Nat.reduceAdd, Nat.reduceMul, hxe, hsnoc, hps2]); try omega) (by first | exact eO rfl | exact eW rfl) (by (try simp (disch := omega) only [go_sem, reduceIte, Nat.reduceEqDiff, Nat.reduceAdd, Nat.reduceMul, hxe, hsnoc, hps2]); try rfl) zT1 (by omega) (by unfold maxLen; omega) (by (try simp only [go_sem]); first | omega | decide) (by (try simp (disch := omega) only [go_sem, reduceIte, Nat.reduceEqDiff, Nat.reduceAdd, Nat.reduceMul, hxe, hsnoc, hps2]); try rfl) (by (try simp only [go_sem]); try rfl) ?_)
        exact hx_lG [7, 9, 11, 14, 15, 16, 18, 19, 20, 21] (i + 1, P ++ [true]) ⟨hin, hgs.symm⟩ (by simp only; omega) (by rw [if_pos h0, hps2]; rfl)
      · rw [decide_eq_false hr0] at hgs
        repeat (first | refine F_mv zT0 rfl ?_ | refine F_iaR (by rfl) (by rfl) (by omega) zT1 ?_ | refine F_ldR (by rfl) (by first | exact eO rfl | exact eW rfl) (by (try simp (disch := omega) only [go_sem, reduceIte, Nat.reduceEqDiff, Nat.reduceAdd, Nat.reduceMul, hxe, hsnoc, hps2]); try rfl) (by (try simp only [go_sem]); first | omega | decide) (by (try simp (disch := omega) only [go_sem, hxe, hsnoc, hps2]); try rfl) zT0 ?_ | refine F_nil zT1 ?_ | refine F_lss (by rfl) (by rfl) zT6 ?_ | refine F_add (by rfl) (by rfl) (by (try simp (disch := omega) only [go_sem, Int.reduceAdd, Int.reduceSub, Int.reduceMul, hxe, hsnoc, hps2]); try rfl) ?_ | refine F_lenS (by rfl) ?_ | refine hx_true (by rfl) ?_ | refine hx_seq ?_ | refine hx_region ?_ | refine hx_block ?_ | refine hx_b ?_ | refine hx_skip ?_ | refine F_geq (by rfl) (by rfl) (by first | exact leT (by omega) | exact leF (by omega) | rfl) ?_ | refine F_bsl zT1 (by (try simp only [List.map_cons, List.map_nil]); repeat (first | (apply eL1; · exact zT0) | rfl)) (by (try simp only [go_sem]); try rfl) zT10 (by rfl) (by rfl) ?_ | refine F_mm (by rfl) (by rfl) (by (try simp only [go_sem, reduceIte, hxe, hsnoc, hps2]); try rfl) ?_ | refine F_appR zT1 (by rfl) zT0 zT9 (by (try simp (disch := omega) only [go_sem, reduceIte, Nat.reduceEqDiff, Nat.reduceAdd, Nat.reduceMul, hxe, hsnoc, hps2]); try omega) (by first | exact eO rfl | exact eW rfl) (by (try simp (disch := omega) only [go_sem, reduceIte, Nat.reduceEqDiff, Nat.reduceAdd, Nat.reduceMul, hxe, hsnoc, hps2]); try rfl) zT1 (by omega) (by unfold maxLen; omega) (by (try simp only [go_sem]); first | omega | decide) (by (try simp (disch := omega) only [go_sem, reduceIte, Nat.reduceEqDiff, Nat.reduceAdd, Nat.reduceMul, hxe, hsnoc, hps2]); try rfl) (by (try simp only [go_sem]); try rfl) ?_)
        exact hx_lG [7, 9, 11, 14, 15, 16, 18, 19, 20, 21] (i + 1, P ++ [false]) ⟨hin, hgs.symm⟩ (by simp only; omega) (by rw [if_pos h0, hps2]; rfl)
    · have hps2 : posS w i = posS w (i + 1) := by omega
      by_cases hr0 : 0 ≤ rank.getD i 0
      · rw [decide_eq_true hr0] at hgs
        repeat (first | refine F_mv zT0 rfl ?_ | refine F_iaR (by rfl) (by rfl) (by omega) zT1 ?_ | refine F_ldR (by rfl) (by first | exact eO rfl | exact eW rfl) (by (try simp (disch := omega) only [go_sem, reduceIte, Nat.reduceEqDiff, Nat.reduceAdd, Nat.reduceMul, hxe, hsnoc]); try rfl) (by (try simp only [go_sem]); first | omega | decide) (by (try simp (disch := omega) only [go_sem, hxe, hsnoc]); try rfl) zT0 ?_ | refine F_nil zT1 ?_ | refine F_lss (by rfl) (by rfl) zT6 ?_ | refine F_add (by rfl) (by rfl) (by (try simp (disch := omega) only [go_sem, Int.reduceAdd, Int.reduceSub, Int.reduceMul, hxe, hsnoc]); try rfl) ?_ | refine F_lenS (by rfl) ?_ | refine hx_true (by rfl) ?_ | refine hx_seq ?_ | refine hx_region ?_ | refine hx_block ?_ | refine hx_b ?_ | refine hx_skip ?_ | refine F_geq (by rfl) (by rfl) (by first | exact leT (by omega) | exact leF (by omega) | rfl) ?_ | refine F_bsl zT1 (by (try simp only [List.map_cons, List.map_nil]); repeat (first | (apply eL1; · exact zT0) | rfl)) (by (try simp only [go_sem]); try rfl) zT10 (by rfl) (by rfl) ?_ | refine F_mm (by rfl) (by rfl) (by (try simp only [go_sem, reduceIte, hxe, hsnoc]); try rfl) ?_ | refine F_appR zT1 (by rfl) zT0 zT9 (by (try simp (disch := omega) only [go_sem, reduceIte, Nat.reduceEqDiff, Nat.reduceAdd, Nat.reduceMul, hxe, hsnoc]); try omega) (by first | exact eO rfl | exact eW rfl) (by (try simp (disch := omega) only [go_sem, reduceIte, Nat.reduceEqDiff, Nat.reduceAdd, Nat.reduceMul, hxe, hsnoc]); try rfl) zT1 (by omega) (by unfold maxLen; omega) (by (try simp only [go_sem]); first | omega | decide) (by (try simp (disch := omega) only [go_sem, reduceIte, Nat.reduceEqDiff, Nat.reduceAdd, Nat.reduceMul, hxe, hsnoc]); try rfl) (by (try simp only [go_sem]); try rfl) ?_)
        exact hx_lG [7, 9, 11, 14, 15, 16, 18, 19, 20, 21] (i + 1, P ++ [true]) ⟨hin, hgs.symm⟩ (by simp only; omega) (by rw [if_neg h0, Int.add_zero, hps2]; rfl)
      · rw [decide_eq_false hr0] at hgs
        repeat (first | refine F_mv zT0 rfl ?_ | refine F_iaR (by rfl) (by rfl) (by omega) zT1 ?_ | refine F_ldR (by rfl) (by first | exact eO rfl | exact eW rfl) (by (try simp (disch := omega) only [go_sem, reduceIte, Nat.reduceEqDiff, Nat.reduceAdd, Nat.reduceMul, hxe, hsnoc]); try rfl) (by (try simp only [go_sem]); first | omega | decide) (by (try simp (disch := omega) only [go_sem, hxe, hsnoc]); try rfl) zT0 ?_ | refine F_nil zT1 ?_ | refine F_lss (by rfl) (by rfl) zT6 ?_ | refine F_add (by rfl) (by rfl) (by (try simp (disch := omega) only [go_sem, Int.reduceAdd, Int.reduceSub, Int.reduceMul, hxe, hsnoc]); try rfl) ?_ | refine F_lenS (by rfl) ?_ | refine hx_true (by rfl) ?_ | refine hx_seq ?_ | refine hx_region ?_ | refine hx_block ?_ | refine hx_b ?_ | refine hx_skip ?_ | refine F_geq (by rfl) (by rfl) (by first | exact leT (by omega) | exact leF (by omega) | rfl) ?_ | refine F_bsl zT1 (by (try simp only [List.map_cons, List.map_nil]); repeat (first | (apply eL1; · exact zT0) | rfl)) (by (try simp only [go_sem]); try rfl) zT10 (by rfl) (by rfl) ?_ | refine F_mm (by rfl) (by rfl) (by (try simp only [go_sem, reduceIte, hxe, hsnoc]); try rfl) ?_ | refine F_appR zT1 (by rfl) zT0 zT9 (by (try simp (disch := omega) only [go_sem, reduceIte, Nat.reduceEqDiff, Nat.reduceAdd, Nat.reduceMul, hxe, hsnoc]); try omega) (by first | exact eO rfl | exact eW rfl) (by (try simp (disch := omega) only [go_sem, reduceIte, Nat.reduceEqDiff, Nat.reduceAdd, Nat.reduceMul, hxe, hsnoc]); try rfl) zT1 (by omega) (by unfold maxLen; omega) (by (try simp only [go_sem]); first | omega | decide) (by (try simp (disch := omega) only [go_sem, reduceIte, Nat.reduceEqDiff, Nat.reduceAdd, Nat.reduceMul, hxe, hsnoc]); try rfl) (by (try simp only [go_sem]); try rfl) ?_)
        exact hx_lG [7, 9, 11, 14, 15, 16, 18, 19, 20, 21] (i + 1, P ++ [false]) ⟨hin, hgs.symm⟩ (by simp only; omega) (by rw [if_neg h0, Int.add_zero, hps2]; rfl)
  · obtain rfl : i = nd.length := by omega
    have hcP : ClosedX (nd.map nl) P := by rw [hP]; exact grnd_closed g hR
    have clP := ht_closed (nd.map nl) P (by omega) (by omega) h3
    rw [(closedB_iff (fits_gr g hPn)).2 hcP] at clP
    have hhP := ht_hull (nd.map nl) P (by omega) (by omega) h3
    have hsP := ht_same P P (by omega) (by omega)
    rw [decide_eq_true rfl] at hsP
    simp only [Gs, Bl] at clP hhP hsP
    rw [hnl, hPn] at clP hhP
    rw [hPn] at hsP
    have hWb := wS_bd hw S nd.length
    repeat (first | refine F_mv zT0 rfl ?_ | refine F_nil zT1 ?_ | refine F_lss (by rfl) (by rfl) zT6 ?_ | refine F_lenS (by rfl) ?_ | refine hx_exitS (by rfl) ?_ | refine hx_false (by rfl) ?_ | refine hx_seq ?_ | refine hx_region ?_)
    refine F_call (by (try simp only [List.map_cons, List.map_nil]); repeat (first | (apply eL1; · exact zT0) | rfl)) zT2 (hac) ?_
    rintro _ rfl
    refine ⟨zT3, _, _, _, _, _, zT4, (by decide), (by simp only [upF, upS]; try rfl), ?_⟩
    repeat (first | refine F_mv zT0 rfl ?_ | refine F_yes (by rfl) (by rfl) ?_ | refine F_eql (by rfl) (by rfl) (by first | exact eqT (by omega) | exact eqF (by omega) | rfl) ?_ | refine F_sub (by rfl) (by rfl) zT11 ?_)
    refine F_call (by (try simp only [List.map_cons, List.map_nil]); repeat (first | (apply eL1; · exact zT0) | rfl)) zT2 (clP) ?_
    rintro _ rfl
    refine ⟨zT3, _, _, _, _, _, zT4, (by decide), (by simp only [upF, upS]; try rfl), ?_⟩
    repeat (first | refine F_mv zT0 rfl ?_ | refine F_yes (by rfl) (by rfl) ?_ | refine F_pickT (by rfl) zT0 ?_)
    refine F_call (by (try simp only [List.map_cons, List.map_nil]); repeat (first | (apply eL1; · exact zT0) | rfl)) zT2 (hhP) ?_
    rintro _ ⟨A', rfl, ⟨hf, _⟩ | ⟨_, hA'⟩⟩
    · rw [fits_gr g hPn] at hf; cases hf
    obtain rfl := hA'.unique (hull_selfC hcP)
    rw [hPn]
    refine ⟨zT3, _, _, _, _, _, zT4, (by decide), (by simp only [upF, upS]; try rfl), ?_⟩
    repeat (first | refine F_mv zT0 rfl ?_ | refine F_yes (by rfl) (by rfl) ?_)
    refine F_call (by (try simp only [List.map_cons, List.map_nil]); repeat (first | (apply eL1; · exact zT0) | rfl)) zT2 (hsP) ?_
    rintro _ rfl
    refine ⟨zT3, _, _, _, _, _, zT4, (by decide), (by simp only [upF, upS]; try rfl), ?_⟩
    repeat (first | refine F_mv zT0 rfl ?_ | refine F_yes (by rfl) (by rfl) ?_ | refine F_pickT (by rfl) zT0 ?_)
    refine F_call (by (try simp only [List.map_cons, List.map_nil]); repeat (first | (apply eL1; · exact zT0) | rfl)) zT2 (ht_lives28) ?_
    rintro _ rfl
    refine ⟨zT3, _, _, _, _, _, zT4, (by decide), (by simp only [upF, upS]; try rfl), ?_⟩
    repeat (first | refine F_mv zT0 rfl ?_ | refine F_nil zT1 ?_ | refine F_pickT (by rfl) zT0 ?_)
    refine hx_retF (by (try simp only [List.map_cons, List.map_nil]); repeat (first | (apply eL1; · exact zT0) | rfl)) zT5 zT7 ?_
    rfl

end Go.Proofs.Ytkhbiknjkffpjaa
