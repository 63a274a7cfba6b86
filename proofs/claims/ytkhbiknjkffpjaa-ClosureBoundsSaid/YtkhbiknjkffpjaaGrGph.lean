/-
  OWN WORK. Several small texts in one.
-/
import Derived.Test.YtkhbiknjkffpjaaClBnd
import Derived.Test.YtkhbiknjkffpjaaClRNet
import Derived.Test.YtkhbiknjkffpjaaGrBig
section
set_option linter.unusedSimpArgs false
set_option linter.unusedVariables false
namespace Go.Proofs.Ytkhbiknjkffpjaa
open Go.RowKit Go.SL Go.HL

set_option maxHeartbeats 8000000 in
theorem ht_rbound (w : List Int) (nd : List (List Nat)) (bad : List Bool) (fl : List Int) (g : Gr nd bad) (hw : WOK w) (hl : w.length = nd.length) : HT Try.prog 27 [I w, Gs (nd.map nl), I fl] (fun r => ∃ x y, r = .tup [.int .i64 x, .int .i64 y] ∧ BoundR w nd fl x y) := by
  have hsz := g.size
  have hnl : (nd.map nl).length = nd.length := by simp
  have hNl := netE_len g w
  have hN2 : nd.length * nd.length ≤ 256 * 256 := Nat.mul_le_mul hsz hsz
  have hv := netE_okN g hw
  have hnet := ht_rnet w nd bad g hw hl
  have hcv := ht_rvalid28 w (nd.map nl) (by omega) (by omega) (fun i => by rw [nl_getD, nl_len]; have := g.len i; omega)
  simp only [Gs, I] at hnet hcv
  rw [hnl, hl] at hnet hcv
  have h21 : (nd.length : Int) + 2 - 2 = nd.length := by omega
  have h22 : (nd.length : Int) + 2 - 1 = nd.length + 1 := by omega
  refine HT.of rfl fc27 (Nat.le_of_ble_eq_true rfl) ?_
  unfold c27
  simp only [Gs, I, argSlots, Nat.reduceAdd]
  rw [hnl, hl]
  repeat (first | refine F_mv zT0 rfl ?_ | refine F_nil zT1 ?_ | refine hx_seq ?_ | refine hx_region ?_)
  refine F_call (by (try simp only [List.map_cons, List.map_nil]); repeat (first | (apply eL1; · exact zT0) | rfl)) zT2 (hcv) ?_
  rintro _ ⟨b, rfl, hb⟩
  obtain rfl : b = true := hb.2 (VW.of g hw hl)
  refine ⟨zT3, _, _, _, _, _, zT4, (by decide), (by simp only [upF, upS]; try rfl), ?_⟩
  repeat (first | refine F_mv zT0 rfl ?_ | refine F_nil zT1 ?_ | refine hx_false (by rfl) ?_ | refine hx_seq ?_ | refine hx_region ?_ | refine hx_skip ?_ | refine F_notT (by rfl) ?_)
  refine F_call (by (try simp only [List.map_cons, List.map_nil]); repeat (first | (apply eL1; · exact zT0) | rfl)) zT2 (hnet) ?_
  rintro _ rfl
  refine ⟨zT3, _, _, _, _, _, zT4, (by decide), (by simp only [upF, upS]; try rfl), ?_⟩
  repeat (first | refine F_mv zT0 rfl ?_ | refine F_nil zT1 ?_ | refine F_ext (by rfl) (by (try simp only [go_sem]); first | omega | decide) zT0 ?_ | refine hx_seq ?_ | refine hx_region ?_ | refine F_sub (by rfl) (by rfl) (by (try simp (disch := omega) only [go_sem, Int.reduceAdd, Int.reduceSub, Int.reduceMul, h21, h22]); try rfl) ?_)
  by_cases hfl : fl.length = (netE w nd).length
  · have hck := ht_rcheck (nd.length + 2) nd.length (nd.length + 1) (netE w nd) fl hv hfl
    simp only [Es, I, Int.natCast_add, Int.cast_ofNat_Int] at hck
    refine F_call (by (try simp only [List.map_cons, List.map_nil]); repeat (first | (apply eL1; · exact zT0) | rfl)) zT2 (hck) ?_
    rintro _ ⟨v, e, rfl, hR⟩
    have hbd := hR.bd (fun e he => (hv.all e he).2.2.2.2.2.2) (by omega)
    have hE : e = 0 ∨ e = 5 ∨ e = 24 := by
      rcases hR with ⟨_, _, h⟩ | ⟨_, _, _, h⟩ | ⟨_, _, _, h⟩ <;> omega
    refine ⟨zT3, _, _, _, _, _, zT4, (by decide), (by simp only [upF, upS]; try rfl), ?_⟩
    by_cases he : e = 0
    · subst he
      repeat (first | refine F_mv zT0 rfl ?_ | refine F_nil zT1 ?_ | refine F_neq (by rfl) (by rfl) (by first | exact neF (by omega) | exact neT (by omega) | rfl) ?_ | refine F_ext (by rfl) (by (try simp only [go_sem]); first | omega | decide) zT0 ?_ | refine hx_false (by rfl) ?_ | refine hx_seq ?_ | refine hx_region ?_ | refine hx_block ?_ | refine hx_skip ?_)
      refine hx_loopG [0, 10, 12, 13] (fun i : Nat => i ≤ nd.length) (fun i => ⟨[(0, .sl nd.length (HL.ints w)), (10, .int .i64 v), (12, .int .i64 (posS w i)), (13, .int .i64 i)], [], 0⟩) (fun i => nd.length - i) 0 (by omega) rfl ?_
      rintro i hi
      have hp := posS_bd hw i
      by_cases hin : i < nd.length
      · have hwi := hw i
        obtain ⟨x, hx⟩ : ∃ x, w.getD i 0 = x := ⟨_, rfl⟩
        have hnx : posS w (i + 1) = posS w i + max 0 x := by rw [← hx]; rfl
        rw [hx] at hwi
        by_cases h0 : 0 < x
        · have hnx2 : posS w i + x = posS w (i + 1) := by omega
          repeat (first | refine F_mv zT0 rfl ?_ | refine F_iaS (by rfl) (by rfl) (by omega) zT1 ?_ | refine F_ldP (by rfl) (by (try simp only [go_sem]); first | omega | decide) (by (try simp (disch := omega) only [go_sem, hx, hnx2]); try rfl) ?_ | refine F_nil zT1 ?_ | refine F_lss (by rfl) (by rfl) zT6 ?_ | refine F_add (by rfl) (by rfl) (by (try simp (disch := omega) only [go_sem, Int.reduceAdd, Int.reduceSub, Int.reduceMul, hx, hnx2]); try rfl) ?_ | refine F_lenS (by rfl) ?_ | refine hx_true (by rfl) ?_ | refine hx_seq ?_ | refine hx_region ?_ | refine hx_block ?_ | refine hx_b ?_ | refine hx_skip ?_ | refine F_mm (by rfl) (by rfl) (by (try simp only [go_sem, reduceIte, hx, hnx2]); try rfl) ?_)
          exact hx_lG [0, 10, 12, 13] (i + 1) hin (by omega) (by rw [if_pos h0, hnx2]; rfl)
        · have hnx2 : posS w i = posS w (i + 1) := by omega
          repeat (first | refine F_mv zT0 rfl ?_ | refine F_iaS (by rfl) (by rfl) (by omega) zT1 ?_ | refine F_ldP (by rfl) (by (try simp only [go_sem]); first | omega | decide) (by (try simp (disch := omega) only [go_sem, hx]); try rfl) ?_ | refine F_nil zT1 ?_ | refine F_lss (by rfl) (by rfl) zT6 ?_ | refine F_add (by rfl) (by rfl) (by (try simp (disch := omega) only [go_sem, Int.reduceAdd, Int.reduceSub, Int.reduceMul, hx]); try rfl) ?_ | refine F_lenS (by rfl) ?_ | refine hx_true (by rfl) ?_ | refine hx_seq ?_ | refine hx_region ?_ | refine hx_block ?_ | refine hx_b ?_ | refine hx_skip ?_ | refine F_mm (by rfl) (by rfl) (by (try simp only [go_sem, reduceIte, hx]); try rfl) ?_)
          exact hx_lG [0, 10, 12, 13] (i + 1) hin (by omega) (by rw [if_neg h0, Int.add_zero, hnx2]; rfl)
      · obtain rfl : i = nd.length := by omega
        repeat (first | refine F_mv zT0 rfl ?_ | refine F_nil zT1 ?_ | refine F_lss (by rfl) (by rfl) zT6 ?_ | refine F_lenS (by rfl) ?_ | refine hx_exitS (by rfl) ?_ | refine hx_false (by rfl) ?_ | refine hx_seq ?_ | refine hx_region ?_ | refine F_sub (by rfl) (by rfl) zT11 ?_)
        refine hx_retF (by (try simp only [List.map_cons, List.map_nil]); repeat (first | (apply eL1; · exact zT0) | rfl)) zT5 zT7 ?_
        exact ⟨_, _, rfl, .inr ⟨hfl, v, 0, hR, .inr ⟨rfl, rfl, rfl⟩⟩⟩
    · repeat (first | refine F_mv zT0 rfl ?_ | refine F_nil zT1 ?_ | refine F_neq (by rfl) (by rfl) (by first | exact neF (by omega) | exact neT (by omega) | rfl) ?_ | refine F_ext (by rfl) (by (try simp only [go_sem]); first | omega | decide) zT0 ?_ | refine hx_true (by rfl) ?_ | refine hx_seq ?_ | refine hx_region ?_)
      refine hx_retF (by (try simp only [List.map_cons, List.map_nil]); repeat (first | (apply eL1; · exact zT0) | rfl)) zT5 zT7 ?_
      exact ⟨_, _, rfl, .inr ⟨hfl, v, e, hR, .inl ⟨he, rfl, rfl⟩⟩⟩
  · have hck := ht_rcheck_bad ((nd.length : Int) + 2) nd.length ((nd.length : Int) + 1) (netE w nd) fl (by omega) (.inr hfl)
    simp only [Es, I] at hck
    refine F_call (by (try simp only [List.map_cons, List.map_nil]); repeat (first | (apply eL1; · exact zT0) | rfl)) zT2 (hck) ?_
    rintro _ rfl
    refine ⟨zT3, _, _, _, _, _, zT4, (by decide), (by simp only [upF, upS]; try rfl), ?_⟩
    repeat (first | refine F_mv zT0 rfl ?_ | refine F_nil zT1 ?_ | refine F_neq (by rfl) (by rfl) (by first | exact neF (by omega) | exact neT (by omega) | rfl) ?_ | refine F_ext (by rfl) (by (try simp only [go_sem]); first | omega | decide) zT0 ?_ | refine hx_true (by rfl) ?_ | refine hx_seq ?_ | refine hx_region ?_)
    refine hx_retF (by (try simp only [List.map_cons, List.map_nil]); repeat (first | (apply eL1; · exact zT0) | rfl)) zT5 zT7 ?_
    exact ⟨_, _, rfl, .inl ⟨hfl, rfl, rfl⟩⟩

theorem ht_rbound_bad (w : List Int) (needs : List (List Int)) (fl : List Int) (h1 : needs.length ≤ 9223372036854775807) (h2 : w.length ≤ 9223372036854775807) (h3 : ∀ i, (needs.getD i []).length ≤ 9223372036854775807) (hv : ¬ VW w needs) : HT Try.prog 27 [I w, Gs needs, I fl] (fun r => r = .tup [.int .i64 0, .int .i64 1]) := by
  refine HT.of rfl fc27 (Nat.le_of_ble_eq_true rfl) ?_
  unfold c27
  simp only [Gs, I, argSlots, Nat.reduceAdd]
  repeat (first | refine F_mv zT0 rfl ?_ | refine F_nil zT1 ?_ | refine hx_seq ?_ | refine hx_region ?_)
  refine F_call (by (try simp only [List.map_cons, List.map_nil]); repeat (first | (apply eL1; · exact zT0) | rfl)) (by simp (disch := omega) only [thawL, Gs, HV.thaw, allIds, aget, nget, if_true, if_false, reduceIte, Nat.reduceEqDiff, stripL, HV.strip, win_intsE, win_boolsE, win_edgesE, Nat.mul_one, List.cons_append, List.nil_append, List.append_nil, I, Bl, T3, Es, List.getD_cons_zero, List.getD_cons_succ, HL.ints_strip, HL.bools_strip, trip_strip, edges_strip]; try rfl) (ht_rvalid28 w needs h1 h2 h3) ?_
  rintro _ ⟨b, rfl, hb⟩
  cases b with
  | true => exact absurd (hb.1 rfl) hv
  | false =>
    refine ⟨zT3, _, _, _, _, _, zT4, (by decide), (by simp only [upF, upS]; try rfl), ?_⟩
    repeat (first | refine F_mv zT0 rfl ?_ | refine F_nil zT1 ?_ | refine hx_true (by rfl) ?_ | refine hx_seq ?_ | refine hx_region ?_ | refine F_notF (by rfl) ?_)
    refine hx_retF (by (try simp only [List.map_cons, List.map_nil]); repeat (first | (apply eL1; · exact zT0) | rfl)) zT5 zT7 ?_
    rfl
theorem ht_cbound_bad (w : List Int) (needs : List (List Int)) (fl : List Int) (h1 : needs.length ≤ 9223372036854775807) (h2 : w.length ≤ 9223372036854775807) (h3 : ∀ i, (needs.getD i []).length ≤ 9223372036854775807) (hv : ¬ VW w needs) : HT Try.prog 28 [I w, Gs needs, I fl] (fun r => r = .tup [.int .i64 0, .int .i64 1]) := by
  refine HT.of rfl fc28 (Nat.le_of_ble_eq_true rfl) ?_
  unfold c28
  simp only [Gs, I, argSlots, Nat.reduceAdd]
  repeat (first | refine F_mv zT0 rfl ?_ | refine F_nil zT1 ?_ | refine hx_seq ?_ | refine hx_region ?_)
  refine F_call (by (try simp only [List.map_cons, List.map_nil]); repeat (first | (apply eL1; · exact zT0) | rfl)) (by simp (disch := omega) only [thawL, Gs, HV.thaw, allIds, aget, nget, if_true, if_false, reduceIte, Nat.reduceEqDiff, stripL, HV.strip, win_intsE, win_boolsE, win_edgesE, Nat.mul_one, List.cons_append, List.nil_append, List.append_nil, I, Bl, T3, Es, List.getD_cons_zero, List.getD_cons_succ, HL.ints_strip, HL.bools_strip, trip_strip, edges_strip]; try rfl) (ht_cnet_bad w needs h1 h2 h3 hv) ?_
  rintro _ rfl
  refine ⟨zT3, _, _, _, _, _, zT4, (by decide), (by simp only [upF, upS]; try rfl), ?_⟩
  repeat (first | refine F_mv zT0 rfl ?_ | refine F_nil zT1 ?_ | refine F_eql (by rfl) (by rfl) (by first | exact eqT (by omega) | exact eqF (by omega) | rfl) ?_ | refine F_ext (by rfl) (by (try simp only [go_sem]); first | omega | decide) zT0 ?_ | refine hx_true (by rfl) ?_ | refine hx_seq ?_ | refine hx_region ?_)
  refine hx_retF (by (try simp only [List.map_cons, List.map_nil]); repeat (first | (apply eL1; · exact zT0) | rfl)) zT5 zT7 ?_
  rfl

end Go.Proofs.Ytkhbiknjkffpjaa
end
section
set_option linter.unusedSimpArgs false
set_option linter.unusedVariables false
namespace Go.Proofs.Ytkhbiknjkffpjaa
open Go.RowKit Go.SL Go.HL

set_option maxHeartbeats 4000000 in
theorem ht_ggraph (l : List Int) (hl : l.length ≤ 9223372036854775807) : HT Try.prog 11 [I l] (fun r => ∃ nd bad, r = .tup [.osl 1 nd.length (rowsO nd), .osl 1 nd.length (HL.bools bad)] ∧ nd.length ≤ 9 ∧ Gr nd bad ∧ ∀ i, (nd.getD i []).length ≤ 3) := by
  refine HT.of rfl fc11 (Nat.le_of_ble_eq_true rfl) ?_
  unfold c11
  simp only [I, argSlots, Nat.reduceAdd]
  repeat (first | refine F_mv zT0 rfl ?_ | refine F_nil zT1 ?_ | refine hx_seq ?_ | refine hx_region ?_ | refine F_mvnil rfl (by rfl) zT1 ?_)
  refine F_call (by (try simp only [List.map_cons, List.map_nil]); repeat (first | (apply eL1; · exact zT0) | rfl)) zT2 (ht_gnum l 0 (by omega) (by omega) hl) ?_
  rintro _ ⟨x, rfl, hx1, hx2⟩
  refine ⟨zT3, _, _, _, _, _, zT4, (by decide), (by simp only [upF, upS]; try rfl), ?_⟩
  skip
  refine F_call (by (try simp only [List.map_cons, List.map_nil]); repeat (first | (apply eL1; · exact zT0) | rfl)) zT2 (ht_gmod x 10 (by omega) (by omega)) ?_
  rintro _ rfl
  have e0 := Int.emod_nonneg x (show (10 : Int) ≠ 0 by omega)
  have e1 := Int.emod_lt_of_pos x (show (0 : Int) < 10 by omega)
  obtain ⟨m, hm⟩ : ∃ m : Nat, (m : Int) = x % 10 := ⟨(x % 10).toNat, by omega⟩
  rw [← hm] at e0 e1 ⊢
  refine ⟨zT3, _, _, _, _, _, zT4, (by decide), (by simp only [upF, upS]; try rfl), ?_⟩
  clear hm
  skip
  refine F_call (by (try simp only [List.map_cons, List.map_nil]); repeat (first | (apply eL1; · exact zT0) | rfl)) zT2 (ht_gbig l m (by omega) hl) ?_
  rintro _ ⟨nd, bad, rfl, hnm, g, hd3⟩
  refine ⟨zT3, _, _, _, _, _, zT4, (by decide), (by simp only [upF, upS]; try rfl), ?_⟩
  subst hnm
  repeat (first | refine F_mv zT0 rfl ?_ | refine F_nil zT1 ?_ | refine F_ext (by rfl) (by (try simp only [go_sem]); first | omega | decide) zT0 ?_)
  refine hx_retF (by (try simp only [List.map_cons, List.map_nil]); repeat (first | (apply eL1; · exact zT0) | rfl)) zT5 zT7 ?_
  exact ⟨nd, bad, rfl, by omega, g, hd3⟩

end Go.Proofs.Ytkhbiknjkffpjaa
end
