/-
  OWN WORK. The law ClosureNetworks in the value language.
-/
import Derived.Test.YtkhbiknjkffpjaaCodesClosureNetworks
import Derived.Test.YtkhbiknjkffpjaaClLiv
import Derived.Test.YtkhbiknjkffpjaaClSm
import Derived.Test.YtkhbiknjkffpjaaClRNet
import Derived.Test.YtkhbiknjkffpjaaGrGph
set_option linter.unusedSimpArgs false
set_option linter.unusedVariables false
namespace Go.Proofs.Ytkhbiknjkffpjaa
open Go.RowKit Go.SL Go.HL

theorem win_take30 (g : List (List Int)) : win (rowsI g) 0 (Int.toNat 30) = rowsI (g.take 30) := by
  unfold win rowsI
  simp
  intro h
  rw [List.take_of_length_le (by simp; omega)]
/-- Both networks of any weights and needs. -/
theorem net_any (w : List Int) (needs : List (List Int)) (h1 : needs.length ≤ 9223372036854775807) (h2 : w.length ≤ 9223372036854775807) (h3 : ∀ i, (needs.getD i []).length ≤ 9223372036854775807) :
    ∃ (n : Nat) (es : List Edge), n ≤ 300 ∧ es.length ≤ 70000 ∧ HT Try.prog 22 [I w, Gs needs] (fun r => r = .tup [.int .i64 n, .osl 3 es.length (edges es)]) ∧ HT Try.prog 23 [I w, Gs needs] (fun r => r = .tup [.int .i64 n, .osl 3 es.length (edges es)]) := by
  by_cases hv : VW w needs
  · obtain ⟨hl, hwr, hg⟩ := VW.vg.1 hv
    obtain ⟨nd, rfl, g⟩ := hg.gr
    have hnl : (nd.map nl).length = nd.length := by simp
    rw [hnl] at hl hwr
    have hsz := g.size
    have hw : WOK w := fun i => by
      by_cases hi : i < nd.length
      · exact hwr i hi
      · rw [List.getD_eq_getElem?_getD, List.getElem?_eq_none (by omega)]; simp
    have hN := netE_len g w
    have hN2 : nd.length * nd.length ≤ 256 * 256 := Nat.mul_le_mul hsz hsz
    exact ⟨nd.length + 2, netE w nd, by omega, by omega, ht_cnet w nd _ g hw hl, ht_rnet w nd _ g hw hl⟩
  · exact ⟨0, [], by omega, by simp, ht_cnet_bad w needs h1 h2 h3 hv, ht_rnet_bad w needs h1 h2 h3 hv⟩

set_option maxHeartbeats 16000000 in
theorem nets_rest (w : List Int) (needs : List (List Int)) (l m : List Int) (hw : w.length ≤ 9223372036854775807) (hn : needs.length ≤ 256) (h3 : ∀ i, (needs.getD i []).length ≤ 9223372036854775807)
    (hl : l.length ≤ 9223372036854775807) (hm : m.length ≤ 9223372036854775807) (hmr : ∀ k, k < m.length → -9223372036854775808 ≤ m.getD k 0 ∧ m.getD k 0 ≤ 9223372036854775807) :
    hx Try.prog [HI.c c4_8] (finish [8] fun r => r = .bool true) ⟨[(0, .sl w.length (HL.ints w)), (1, .sl needs.length (rowsI needs)), (2, .sl l.length (HL.ints l)), (3, .sl m.length (HL.ints m))], [], 0⟩ := by
  obtain ⟨n1, e1, hn1, he1, hc1, hr1⟩ := net_any w needs (by omega) hw h3
  repeat (first | refine F_mv zT0 rfl ?_ | refine hx_seq ?_ | refine hx_region ?_)
  refine F_call (by (try simp only [List.map_cons, List.map_nil]); repeat (first | (apply eL1; · exact zT0) | rfl)) (by simp (disch := omega) only [thawL, Gs, HV.thaw, allIds, aget, nget, if_true, if_false, reduceIte, Nat.reduceEqDiff, stripL, HV.strip, win_intsE, win_boolsE, win_edgesE, Nat.mul_one, List.cons_append, List.nil_append, List.append_nil, I, Bl, T3, Es, List.getD_cons_zero, List.getD_cons_succ, HL.ints_strip, HL.bools_strip, trip_strip, edges_strip]; try rfl) (hc1) ?_
  rintro _ rfl
  refine ⟨zT3, _, _, _, _, _, zT4, (by decide), (by simp only [upF, upS]; try rfl), ?_⟩
  repeat (first | refine F_mv zT0 rfl ?_ | refine F_nil zT1 ?_ | refine F_ext (by rfl) (by (try simp only [go_sem]); first | omega | decide) zT0 ?_ | refine hx_seq ?_ | refine hx_region ?_)
  refine F_call (by (try simp only [List.map_cons, List.map_nil]); repeat (first | (apply eL1; · exact zT0) | rfl)) (by simp (disch := omega) only [thawL, Gs, HV.thaw, allIds, aget, nget, if_true, if_false, reduceIte, Nat.reduceEqDiff, stripL, HV.strip, win_intsE, win_boolsE, win_edgesE, Nat.mul_one, List.cons_append, List.nil_append, List.append_nil, I, Bl, T3, Es, List.getD_cons_zero, List.getD_cons_succ, HL.ints_strip, HL.bools_strip, trip_strip, edges_strip]; try rfl) (hr1) ?_
  rintro _ rfl
  refine ⟨zT3, _, _, _, _, _, zT4, (by decide), (by simp only [upF, upS]; try rfl), ?_⟩
  repeat (first | refine F_mv zT0 rfl ?_ | refine F_nil zT1 ?_ | refine F_ext (by rfl) (by (try simp only [go_sem]); first | omega | decide) zT0 ?_ | refine hx_seq ?_ | refine hx_region ?_)
  refine F_call (by (try simp only [List.map_cons, List.map_nil]); repeat (first | (apply eL1; · exact zT0) | rfl)) zT2 (ht_ggraph l hl) ?_
  rintro _ ⟨nd, bad, rfl, hn9, g, hd3⟩
  refine ⟨zT3, _, _, _, _, _, zT4, (by decide), (by simp only [upF, upS]; try rfl), ?_⟩
  have hsz := g.size
  have hnl : (nd.map nl).length = nd.length := by simp
  have hE : stripL (win (rowsO nd) 0 (nd.length * 1)) = rowsI (nd.map nl) := by rw [rowsO_win _ (by omega), rowsO_strip]
  repeat (first | refine F_mv zT0 rfl ?_ | refine F_nil zT1 ?_ | refine F_ext (by rfl) (by (try simp only [go_sem]); first | omega | decide) zT0 ?_)
  refine hx_dropN [3, 9, 10, 11, 12, 13] (⟨[(3, .sl m.length (HL.ints m)), (9, .int .i64 n1), (10, .ref 0 [] 3 0 e1.length), (11, .int .i64 n1), (12, .ref 1 [] 3 0 e1.length), (13, .ref 2 [] 1 0 nd.length)], [(0, .osl 3 e1.length (edges e1)), (1, .osl 3 e1.length (edges e1)), (2, .osl 1 nd.length (rowsO nd))], 3⟩ : St) rfl ?_
  refine hx_freezeN 2 [3, 9, 10, 11, 12, 13] _ (congrArg (fun c : List HV => (⟨[(3, .sl m.length (HL.ints m)), (9, .int .i64 n1), (10, .ref 0 [] 3 0 e1.length), (11, .int .i64 n1), (12, .ref 1 [] 3 0 e1.length), (13, .sl nd.length c)], [(0, .osl 3 e1.length (edges e1)), (1, .osl 3 e1.length (edges e1))], 2⟩ : St)) hE) ?_
  repeat (first | refine F_mv zT0 rfl ?_ | refine F_lenS (by rfl) ?_ | refine hx_seq ?_ | refine hx_region ?_)
  refine F_call (by (try simp only [List.map_cons, List.map_nil]); repeat (first | (apply eL1; · exact zT0) | rfl)) zT2 (ht_weights m nd.length (by omega) hm hmr) ?_
  rintro _ ⟨v, rfl, hvl, hvk⟩
  refine ⟨zT3, _, _, _, _, _, zT4, (by decide), (by simp only [upF, upS]; try rfl), ?_⟩
  have hN := netE_len g v
  have hN2 : nd.length * nd.length ≤ 256 * 256 := Nat.mul_le_mul hsz hsz
  obtain ⟨E, hEE⟩ : ∃ E, netE v nd = E := ⟨_, rfl⟩
  have hcn := ht_cnet v nd bad g hvk hvl
  have hrn := ht_rnet v nd bad g hvk hvl
  simp only [Gs, I] at hcn hrn
  rw [hnl, hvl, hEE] at hcn hrn
  rw [hEE] at hN
  repeat (first | refine F_mv zT0 rfl ?_ | refine F_nil zT1 ?_ | refine hx_seq ?_ | refine hx_region ?_)
  refine F_call (by (try simp only [List.map_cons, List.map_nil]); repeat (first | (apply eL1; · exact zT0) | rfl)) zT2 (hcn) ?_
  rintro _ rfl
  refine ⟨zT3, _, _, _, _, _, zT4, (by decide), (by simp only [upF, upS]; try rfl), ?_⟩
  repeat (first | refine F_mv zT0 rfl ?_ | refine F_nil zT1 ?_ | refine F_ext (by rfl) (by (try simp only [go_sem]); first | omega | decide) zT0 ?_ | refine hx_seq ?_ | refine hx_region ?_)
  refine F_call (by (try simp only [List.map_cons, List.map_nil]); repeat (first | (apply eL1; · exact zT0) | rfl)) zT2 (hrn) ?_
  rintro _ rfl
  refine ⟨zT3, _, _, _, _, _, zT4, (by decide), (by simp only [upF, upS]; try rfl), ?_⟩
  repeat (first | refine F_mv zT0 rfl ?_ | refine F_yes (by rfl) (by rfl) ?_ | refine F_nil zT1 ?_ | refine F_eql (by rfl) (by rfl) (by first | exact eqT (by omega) | exact eqF (by omega) | rfl) ?_ | refine F_ext (by rfl) (by (try simp only [go_sem]); first | omega | decide) zT0 ?_ | refine hx_seq ?_ | refine hx_region ?_)
  refine F_call (by (try simp only [List.map_cons, List.map_nil]); repeat (first | (apply eL1; · exact zT0) | rfl)) zT2 (ht_sameE e1 (by omega)) ?_
  rintro _ rfl
  refine ⟨zT3, _, _, _, _, _, zT4, (by decide), (by simp only [upF, upS]; try rfl), ?_⟩
  repeat (first | refine F_mv zT0 rfl ?_ | refine F_yes (by rfl) (by rfl) ?_ | refine F_eql (by rfl) (by rfl) (by first | exact eqT (by omega) | exact eqF (by omega) | rfl) ?_ | refine F_pickT (by rfl) zT0 ?_ | refine F_add (by rfl) (by rfl) zT11 ?_ | refine F_lenS (by rfl) ?_)
  refine F_call (by (try simp only [List.map_cons, List.map_nil]); repeat (first | (apply eL1; · exact zT0) | rfl)) zT2 (ht_sameE E (by omega)) ?_
  rintro _ rfl
  refine ⟨zT3, _, _, _, _, _, zT4, (by decide), (by simp only [upF, upS]; try rfl), ?_⟩
  repeat (first | refine F_mv zT0 rfl ?_ | refine F_yes (by rfl) (by rfl) ?_ | refine F_pickT (by rfl) zT0 ?_)
  refine F_call (by (try simp only [List.map_cons, List.map_nil]); repeat (first | (apply eL1; · exact zT0) | rfl)) zT2 (ht_lives28) ?_
  rintro _ rfl
  refine ⟨zT3, _, _, _, _, _, zT4, (by decide), (by simp only [upF, upS]; try rfl), ?_⟩
  repeat (first | refine F_mv zT0 rfl ?_ | refine F_nil zT1 ?_ | refine F_pickT (by rfl) zT0 ?_)
  refine hx_retF (by (try simp only [List.map_cons, List.map_nil]); repeat (first | (apply eL1; · exact zT0) | rfl)) zT5 zT7 ?_
  rfl

set_option maxHeartbeats 16000000 in
theorem ht_lawNets (w : List Int) (needs : List (List Int)) (l m : List Int) (hw : w.length ≤ 9223372036854775807) (hn : needs.length ≤ 9223372036854775807) (h3 : ∀ i, (needs.getD i []).length ≤ 9223372036854775807)
    (hl : l.length ≤ 9223372036854775807) (hm : m.length ≤ 9223372036854775807) (hmr : ∀ k, k < m.length → -9223372036854775808 ≤ m.getD k 0 ∧ m.getD k 0 ≤ 9223372036854775807) :
    HT Try.prog 4 [I w, Gs needs, I l, I m] (fun r => r = .bool true) := by
  refine HT.of rfl fc4 (Nat.le_of_ble_eq_true rfl) ?_
  unfold c4
  simp only [I, Gs, Bl, argSlots, Nat.reduceAdd]
  refine hx_seq ?_
  refine hx_region ?_
  repeat (first | refine F_mv zT0 rfl ?_ | refine F_nil zT1 ?_)
  refine hx_seq ?_
  refine hx_seq ?_
  refine hx_region ?_
  by_cases hb : needs.length > 30
  · repeat (first | refine F_mv zT0 rfl ?_ | refine F_nil zT1 ?_ | refine F_lenS (by rfl) ?_ | refine F_gtr (by rfl) (by rfl) zT6 ?_)
    refine hx_true (by rfl) ?_
    refine hx_region ?_
    repeat (first | refine F_mv zT0 rfl ?_ | refine F_nil zT1 ?_ | refine F_slcS (by rfl) (by rfl) (by rfl) (by omega) (by (try simp only [go_sem]); try rfl) zT1 (by (try simp (disch := omega) only [go_sem, reduceIte, Nat.reduceEqDiff, Nat.reduceAdd, Nat.reduceMul]); try rfl) ?_)
    have hE := win_take30 needs
    refine hx_dropN [0, 1, 2, 3] _ (congrArg (fun c : List HV => (⟨[(0, .sl w.length (HL.ints w)), (1, .sl (Int.toNat 30) c), (2, .sl l.length (HL.ints l)), (3, .sl m.length (HL.ints m))], [], 0⟩ : St)) hE) ?_
    have hk := nets_rest w (needs.take 30) l m hw (by simp; omega) (fun i => by
      by_cases hi : i < 30
      · have := h3 i; rw [List.getD_eq_getElem?_getD] at this ⊢; rw [List.getElem?_take_of_lt hi]; exact this
      · rw [List.getD_eq_getElem?_getD, List.getElem?_eq_none (by simp; omega)]; simp) hl hm hmr
    rw [show (needs.take 30).length = Int.toNat 30 by simp; omega] at hk
    exact hk
  · repeat (first | refine F_mv zT0 rfl ?_ | refine F_nil zT1 ?_ | refine F_lenS (by rfl) ?_ | refine F_gtr (by rfl) (by rfl) zT6 ?_)
    refine hx_false (by rfl) ?_
    repeat (first | refine hx_skip ?_)
    refine hx_dropN [0, 1, 2, 3] (⟨[(0, .sl w.length (HL.ints w)), (1, .sl needs.length (rowsI needs)), (2, .sl l.length (HL.ints l)), (3, .sl m.length (HL.ints m))], [], 0⟩ : St) rfl ?_
    exact nets_rest w needs l m hw (by omega) h3 hl hm hmr

end Go.Proofs.Ytkhbiknjkffpjaa
