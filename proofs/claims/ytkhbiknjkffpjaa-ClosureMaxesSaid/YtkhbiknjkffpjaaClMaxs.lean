/-
  OWN WORK. The law ClosureMaxes in the value language.
-/
import Derived.Test.YtkhbiknjkffpjaaCodesClosureMaxes
import Derived.Test.YtkhbiknjkffpjaaClLiv
import Derived.Test.YtkhbiknjkffpjaaClSm
import Derived.Test.YtkhbiknjkffpjaaClRMax
import Derived.Test.YtkhbiknjkffpjaaClRBnd
import Derived.Test.YtkhbiknjkffpjaaClGr
set_option linter.unusedSimpArgs false
set_option linter.unusedVariables false
namespace Go.Proofs.Ytkhbiknjkffpjaa
open Go.RowKit Go.SL Go.HL

theorem win_take9 (g : List (List Int)) : win (rowsI g) 0 (Int.toNat 9) = rowsI (g.take 9) := by
  unfold win rowsI
  simp
  intro h
  rw [List.take_of_length_le (by simp; omega)]

set_option maxHeartbeats 16000000 in
theorem maxs_rest (l m : List Int) (hl : l.length ≤ 9223372036854775807) (hm : m.length ≤ 9223372036854775807) (hmr : ∀ k, k < m.length → -9223372036854775808 ≤ m.getD k 0 ∧ m.getD k 0 ≤ 9223372036854775807) :
    hx Try.prog [HI.c c5_10] (finish [8] fun r => r = .bool true) ⟨[(2, .sl l.length (HL.ints l)), (3, .sl m.length (HL.ints m))], [], 0⟩ := by
  repeat (first | refine F_mv zT0 rfl ?_ | refine hx_seq ?_ | refine hx_region ?_)
  refine F_call (by (try simp only [List.map_cons, List.map_nil]); repeat (first | (apply eL1; · exact zT0) | rfl)) zT2 (ht_ggraph l hl) ?_
  rintro _ ⟨nd, bad, rfl, hn9, g, hd3⟩
  refine ⟨zT3, _, _, _, _, _, zT4, (by decide), (by simp only [upF, upS]; try rfl), ?_⟩
  have hsz := g.size
  have hnl : (nd.map nl).length = nd.length := by simp
  have hE : stripL (win (rowsO nd) 0 (nd.length * 1)) = rowsI (nd.map nl) := by rw [rowsO_win _ (by omega), rowsO_strip]
  repeat (first | refine F_mv zT0 rfl ?_ | refine F_nil zT1 ?_ | refine F_ext (by rfl) (by (try simp only [go_sem]); first | omega | decide) zT0 ?_)
  refine hx_dropN [3, 13] (⟨[(3, .sl m.length (HL.ints m)), (13, .ref 0 [] 1 0 nd.length)], [(0, .osl 1 nd.length (rowsO nd))], 1⟩ : St) rfl ?_
  refine hx_freezeN 0 [3, 13] _ (congrArg (fun c : List HV => (⟨[(3, .sl m.length (HL.ints m)), (13, .sl nd.length c)], [], 0⟩ : St)) hE) ?_
  repeat (first | refine F_mv zT0 rfl ?_ | refine F_lenS (by rfl) ?_ | refine hx_seq ?_ | refine hx_region ?_)
  refine F_call (by (try simp only [List.map_cons, List.map_nil]); repeat (first | (apply eL1; · exact zT0) | rfl)) zT2 (ht_weights m nd.length (by omega) hm hmr) ?_
  rintro _ ⟨v, rfl, hvl, hvk⟩
  refine ⟨zT3, _, _, _, _, _, zT4, (by decide), (by simp only [upF, upS]; try rfl), ?_⟩
  have hN := netE_len g v
  have hN2 : nd.length * nd.length ≤ 256 * 256 := Nat.mul_le_mul hsz hsz
  have hmx := ht_cmax v nd bad g hvk hvl
  have hrm := ht_rmax28 v nd bad g hvk hvl hn9
  simp only [Gs, I] at hmx hrm
  rw [hnl, hvl] at hmx hrm
  repeat (first | refine F_mv zT0 rfl ?_ | refine F_nil zT1 ?_ | refine hx_seq ?_ | refine hx_region ?_)
  refine F_call (by (try simp only [List.map_cons, List.map_nil]); repeat (first | (apply eL1; · exact zT0) | rfl)) zT2 (hmx) ?_
  rintro _ ⟨fl, set, value, rfl, hMS, hF, hval⟩
  refine ⟨zT3, _, _, _, _, _, zT4, (by decide), (by simp only [upF, upS]; try rfl), ?_⟩
  obtain ⟨S, hS⟩ : ∃ S, set.take nd.length = S := ⟨_, rfl⟩
  rw [hS] at hMS hval ⊢
  have hSl := hMS.len
  have hfl := hF.flow.len
  have hbv := hF.val
  rw [Int.toNat_natCast] at hbv
  repeat (first | refine F_mv zT0 rfl ?_ | refine F_nil zT1 ?_ | refine F_ext (by rfl) (by (try simp only [go_sem]); first | omega | decide) zT0 ?_ | refine hx_seq ?_ | refine hx_region ?_)
  refine F_call (by (try simp only [List.map_cons, List.map_nil]); repeat (first | (apply eL1; · exact zT0) | rfl)) zT2 (hrm) ?_
  rintro _ ⟨B, M, rfl, hB⟩
  refine ⟨zT3, _, _, _, _, _, zT4, (by decide), (by simp only [upF, upS]; try rfl), ?_⟩
  obtain ⟨rfl, rfl⟩ := hB.done hMS
  have hrb := ht_rbound v nd bad fl g hvk hvl
  simp only [Gs, I] at hrb
  rw [hnl, hvl, hfl] at hrb
  repeat (first | refine F_mv zT0 rfl ?_ | refine F_nil zT1 ?_ | refine F_ext (by rfl) (by (try simp only [go_sem]); first | omega | decide) zT0 ?_ | refine hx_seq ?_ | refine hx_region ?_)
  refine F_call (by (try simp only [List.map_cons, List.map_nil]); repeat (first | (apply eL1; · exact zT0) | rfl)) zT2 (hrb) ?_
  rintro _ ⟨x, y, rfl, hR⟩
  obtain ⟨rfl, hx⟩ := bound_flow g hvk hF.flow hR
  obtain rfl : x = wS v B nd.length := by rw [hx, hbv, hval]; omega
  refine ⟨zT3, _, _, _, _, _, zT4, (by decide), (by simp only [upF, upS]; try rfl), ?_⟩
  have hsm := ht_same B B (by omega) (by omega)
  rw [decide_eq_true rfl] at hsm
  simp only [Bl] at hsm
  rw [hSl] at hsm
  repeat (first | refine F_mv zT0 rfl ?_ | refine F_yes (by rfl) (by rfl) ?_ | refine F_nil zT1 ?_ | refine F_eql (by rfl) (by rfl) (by first | exact eqT (by omega) | exact eqF (by omega) | rfl) ?_ | refine F_ext (by rfl) (by (try simp only [go_sem]); first | omega | decide) zT0 ?_ | refine hx_seq ?_ | refine hx_region ?_)
  refine F_call (by (try simp only [List.map_cons, List.map_nil]); repeat (first | (apply eL1; · exact zT0) | rfl)) zT2 (hsm) ?_
  rintro _ rfl
  refine ⟨zT3, _, _, _, _, _, zT4, (by decide), (by simp only [upF, upS]; try rfl), ?_⟩
  repeat (first | refine F_mv zT0 rfl ?_ | refine F_yes (by rfl) (by rfl) ?_ | refine F_eql (by rfl) (by rfl) (by first | exact eqT (by omega) | exact eqF (by omega) | rfl) ?_ | refine F_pickT (by rfl) zT0 ?_)
  refine F_call (by (try simp only [List.map_cons, List.map_nil]); repeat (first | (apply eL1; · exact zT0) | rfl)) zT2 (ht_lives28) ?_
  rintro _ rfl
  refine ⟨zT3, _, _, _, _, _, zT4, (by decide), (by simp only [upF, upS]; try rfl), ?_⟩
  repeat (first | refine F_mv zT0 rfl ?_ | refine F_nil zT1 ?_ | refine F_pickT (by rfl) zT0 ?_)
  refine hx_retF (by (try simp only [List.map_cons, List.map_nil]); repeat (first | (apply eL1; · exact zT0) | rfl)) zT5 zT7 ?_
  rfl

set_option maxHeartbeats 16000000 in
theorem maxs_cut (w : List Int) (needs : List (List Int)) (l m : List Int) (hw : w.length ≤ 9223372036854775807) (hn : needs.length ≤ 256) (h3 : ∀ i, (needs.getD i []).length ≤ 9223372036854775807)
    (hl : l.length ≤ 9223372036854775807) (hm : m.length ≤ 9223372036854775807) (hmr : ∀ k, k < m.length → -9223372036854775808 ≤ m.getD k 0 ∧ m.getD k 0 ≤ 9223372036854775807) :
    hx Try.prog [HI.c c5_11] (finish [8] fun r => r = .bool true) ⟨[(0, .sl w.length (HL.ints w)), (1, .sl needs.length (rowsI needs)), (2, .sl l.length (HL.ints l)), (3, .sl m.length (HL.ints m))], [], 0⟩ := by
  refine hx_seq ?_
  refine hx_seq ?_
  repeat (first | refine F_mv zT0 rfl ?_ | refine hx_region ?_)
  refine F_call (by (try simp only [List.map_cons, List.map_nil]); repeat (first | (apply eL1; · exact zT0) | rfl)) (by simp (disch := omega) only [thawL, Gs, HV.thaw, allIds, aget, nget, if_true, if_false, reduceIte, Nat.reduceEqDiff, stripL, HV.strip, win_intsE, win_boolsE, win_edgesE, Nat.mul_one, List.cons_append, List.nil_append, List.append_nil, I, Bl, T3, Es, List.getD_cons_zero, List.getD_cons_succ, HL.ints_strip, HL.bools_strip, trip_strip, edges_strip]; try rfl) (ht_rvalid28 w needs (by omega) hw h3) ?_
  rintro _ ⟨b, rfl, hb⟩
  cases b with
  | true =>
    refine ⟨zT3, _, _, _, _, _, zT4, (by decide), (by simp only [upF, upS]; try rfl), ?_⟩
    repeat (first | refine F_nil zT1 ?_ | refine F_notT (by rfl) ?_)
    refine hx_false (by rfl) ?_
    repeat (first | refine hx_skip ?_)
    refine hx_dropN [2, 3] (⟨[(2, .sl l.length (HL.ints l)), (3, .sl m.length (HL.ints m))], [], 0⟩ : St) rfl ?_
    exact maxs_rest l m hl hm hmr
  | false =>
    refine ⟨zT3, _, _, _, _, _, zT4, (by decide), (by simp only [upF, upS]; try rfl), ?_⟩
    repeat (first | refine F_nil zT1 ?_ | refine F_notF (by rfl) ?_)
    refine hx_true (by rfl) ?_
    repeat (first | refine F_mv zT0 rfl ?_ | refine hx_seq ?_ | refine hx_region ?_)
    refine F_call (by (try simp only [List.map_cons, List.map_nil]); repeat (first | (apply eL1; · exact zT0) | rfl)) (by simp (disch := omega) only [thawL, Gs, HV.thaw, allIds, aget, nget, if_true, if_false, reduceIte, Nat.reduceEqDiff, stripL, HV.strip, win_intsE, win_boolsE, win_edgesE, Nat.mul_one, List.cons_append, List.nil_append, List.append_nil, I, Bl, T3, Es, List.getD_cons_zero, List.getD_cons_succ, HL.ints_strip, HL.bools_strip, trip_strip, edges_strip]; try rfl) (ht_cmax_bad w needs (by omega) hw h3 (fun h => by have := hb.2 h; cases this)) ?_
    rintro _ rfl
    refine ⟨zT3, _, _, _, _, _, zT4, (by decide), (by simp only [upF, upS]; try rfl), ?_⟩
    repeat (first | refine F_mv zT0 rfl ?_ | refine F_nil zT1 ?_ | refine F_ext (by rfl) (by (try simp only [go_sem]); first | omega | decide) zT0 ?_)
    refine hx_seq ?_
    refine hx_region ?_
    repeat (first | refine F_mv zT0 rfl ?_ | refine F_yes (by rfl) (by rfl) ?_ | refine F_nil zT1 ?_ | refine F_neq (by rfl) (by rfl) (by first | exact neF (by omega) | exact neT (by omega) | rfl) ?_ | refine F_pickF (by rfl) zT0 ?_ | refine F_add (by rfl) (by rfl) zT11 ?_ | refine F_lenR (by rfl) ?_)
    refine hx_false (by rfl) ?_
    repeat (first | refine hx_skip ?_)
    refine hx_dropN [2, 3] (⟨[(2, .sl l.length (HL.ints l)), (3, .sl m.length (HL.ints m))], [], 0⟩ : St) rfl ?_
    exact maxs_rest l m hl hm hmr

set_option maxHeartbeats 16000000 in
theorem ht_lawMaxs (w : List Int) (needs : List (List Int)) (l m : List Int) (hw : w.length ≤ 9223372036854775807) (hn : needs.length ≤ 9223372036854775807) (h3 : ∀ i, (needs.getD i []).length ≤ 9223372036854775807)
    (hl : l.length ≤ 9223372036854775807) (hm : m.length ≤ 9223372036854775807) (hmr : ∀ k, k < m.length → -9223372036854775808 ≤ m.getD k 0 ∧ m.getD k 0 ≤ 9223372036854775807) :
    HT Try.prog 5 [I w, Gs needs, I l, I m] (fun r => r = .bool true) := by
  refine HT.of rfl fc5 (Nat.le_of_ble_eq_true rfl) ?_
  unfold c5
  simp only [I, Gs, Bl, argSlots, Nat.reduceAdd]
  refine hx_seq ?_
  refine hx_region ?_
  repeat (first | refine F_mv zT0 rfl ?_ | refine F_nil zT1 ?_)
  refine hx_seq ?_
  refine hx_seq ?_
  refine hx_region ?_
  by_cases hb : needs.length > 9
  · repeat (first | refine F_mv zT0 rfl ?_ | refine F_nil zT1 ?_ | refine F_lenS (by rfl) ?_ | refine F_gtr (by rfl) (by rfl) zT6 ?_)
    refine hx_true (by rfl) ?_
    refine hx_region ?_
    repeat (first | refine F_mv zT0 rfl ?_ | refine F_nil zT1 ?_ | refine F_slcS (by rfl) (by rfl) (by rfl) (by omega) (by (try simp only [go_sem]); try rfl) zT1 (by (try simp (disch := omega) only [go_sem, reduceIte, Nat.reduceEqDiff, Nat.reduceAdd, Nat.reduceMul]); try rfl) ?_)
    have hE := win_take9 needs
    refine hx_dropN [0, 1, 2, 3] _ (congrArg (fun c : List HV => (⟨[(0, .sl w.length (HL.ints w)), (1, .sl (Int.toNat 9) c), (2, .sl l.length (HL.ints l)), (3, .sl m.length (HL.ints m))], [], 0⟩ : St)) hE) ?_
    have hk := maxs_cut w (needs.take 9) l m hw (by simp; omega) (fun i => by
      by_cases hi : i < 9
      · have := h3 i; rw [List.getD_eq_getElem?_getD] at this ⊢; rw [List.getElem?_take_of_lt hi]; exact this
      · rw [List.getD_eq_getElem?_getD, List.getElem?_eq_none (by simp; omega)]; simp) hl hm hmr
    rw [show (needs.take 9).length = Int.toNat 9 by simp; omega] at hk
    exact hk
  · repeat (first | refine F_mv zT0 rfl ?_ | refine F_nil zT1 ?_ | refine F_lenS (by rfl) ?_ | refine F_gtr (by rfl) (by rfl) zT6 ?_)
    refine hx_false (by rfl) ?_
    repeat (first | refine hx_skip ?_)
    refine hx_dropN [0, 1, 2, 3] (⟨[(0, .sl w.length (HL.ints w)), (1, .sl needs.length (rowsI needs)), (2, .sl l.length (HL.ints l)), (3, .sl m.length (HL.ints m))], [], 0⟩ : St) rfl ?_
    exact maxs_cut w needs l m hw (by omega) h3 hl hm hmr

end Go.Proofs.Ytkhbiknjkffpjaa
