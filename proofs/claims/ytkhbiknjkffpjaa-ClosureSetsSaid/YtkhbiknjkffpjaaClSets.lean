/-
  OWN WORK. The law ClosureSets in the value language.
-/
import Derived.Test.YtkhbiknjkffpjaaCodesClosureSets
import Derived.Test.YtkhbiknjkffpjaaClLiv
import Derived.Test.YtkhbiknjkffpjaaClSm
import Derived.Test.YtkhbiknjkffpjaaClVal
import Derived.Test.YtkhbiknjkffpjaaClClsd
import Derived.Test.YtkhbiknjkffpjaaClGr
import Derived.Test.YtkhbiknjkffpjaaClNet
import Derived.Test.YtkhbiknjkffpjaaClRHul
set_option linter.unusedSimpArgs false
set_option linter.unusedVariables false
namespace Go.Proofs.Ytkhbiknjkffpjaa
open Go.RowKit Go.SL Go.HL

theorem win_take (g : List (List Int)) : win (rowsI g) 0 (Int.toNat 30) = rowsI (g.take 30) := by
  unfold win rowsI
  simp
  intro h
  rw [List.take_of_length_le (by simp; omega)]
theorem hulls_eq {g : List (List Int)} {X o1 o2 : List Bool} (h1 : fitsB g X = false ∧ o1 = [] ∨ fitsB g X = true ∧ IsHull g X o1) (h2 : fitsB g X = false ∧ o2 = [] ∨ fitsB g X = true ∧ IsHull g X o2) : o1 = o2 := by
  rcases h1 with ⟨a, rfl⟩ | ⟨a, h1⟩ <;> rcases h2 with ⟨b, rfl⟩ | ⟨b, h2⟩
  · rfl
  · rw [a] at b; cases b
  · rw [a] at b; cases b
  · exact h1.unique h2
theorem hull_len {g : List (List Int)} {X o1 : List Bool} {m : Nat} (hX : X.length ≤ m) (h1 : fitsB g X = false ∧ o1 = [] ∨ fitsB g X = true ∧ IsHull g X o1) : o1.length ≤ m := by
  rcases h1 with ⟨a, rfl⟩ | ⟨a, h1⟩
  · simp
  · rw [h1.len]; exact hX

set_option maxHeartbeats 16000000 in
theorem sets_rest (w : List Int) (needs : List (List Int)) (set : List Bool) (l : List Int) (x : Int) (hw : w.length ≤ 9223372036854775807) (hn : needs.length ≤ 256) (h3 : ∀ i, (needs.getD i []).length ≤ 9223372036854775807)
    (hs : set.length ≤ 9223372036854775807) (hl : l.length ≤ 9223372036854775807) (hlr : ∀ k, k < l.length → -9223372036854775808 ≤ l.getD k 0 ∧ l.getD k 0 ≤ 9223372036854775807) (hxr : -9223372036854775808 ≤ x ∧ x ≤ 9223372036854775807) :
    hx Try.prog [HI.c c3_4] (finish [10] fun r => r = .bool true) ⟨[(0, .sl w.length (HL.ints w)), (1, .sl needs.length (rowsI needs)), (2, .sl set.length (HL.bools set)), (3, .sl l.length (HL.ints l)), (4, .int .i64 x)], [], 0⟩ := by
  repeat (first | refine F_mv zT0 rfl ?_ | refine hx_seq ?_ | refine hx_region ?_)
  refine F_call (by (try simp only [List.map_cons, List.map_nil]); repeat (first | (apply eL1; · exact zT0) | rfl)) zT2 (ht_ggraph l hl) ?_
  rintro _ ⟨nd, bad, rfl, hn9, g, hd3⟩
  refine ⟨zT3, _, _, _, _, _, zT4, (by decide), (by simp only [upF, upS]; try rfl), ?_⟩
  have hsz := g.size
  have hnl : (nd.map nl).length = nd.length := by simp
  have hE : stripL (win (rowsO nd) 0 (nd.length * 1)) = rowsI (nd.map nl) := by rw [rowsO_win _ (by omega), rowsO_strip]
  have h3n : ∀ i, ((nd.map nl).getD i []).length ≤ 9223372036854775807 := fun i => by rw [nl_getD, nl_len]; have := g.len i; omega
  repeat (first | refine F_mv zT0 rfl ?_ | refine F_nil zT1 ?_ | refine F_ext (by rfl) (by (try simp only [go_sem]); first | omega | decide) zT0 ?_)
  refine hx_dropN [0, 1, 2, 3, 4, 11] (⟨[(0, .sl w.length (HL.ints w)), (1, .sl needs.length (rowsI needs)), (2, .sl set.length (HL.bools set)), (3, .sl l.length (HL.ints l)), (4, .int .i64 x), (11, .ref 0 [] 1 0 nd.length)], [(0, .osl 1 nd.length (rowsO nd))], 1⟩ : St) rfl ?_
  refine hx_freezeN 0 [0, 1, 2, 3, 4, 11] _ (congrArg (fun c : List HV => (⟨[(0, .sl w.length (HL.ints w)), (1, .sl needs.length (rowsI needs)), (2, .sl set.length (HL.bools set)), (3, .sl l.length (HL.ints l)), (4, .int .i64 x), (11, .sl nd.length c)], [], 0⟩ : St)) hE) ?_
  repeat (first | refine F_mv zT0 rfl ?_ | refine F_lenS (by rfl) ?_ | refine hx_seq ?_ | refine hx_region ?_)
  refine F_call (by (try simp only [List.map_cons, List.map_nil]); repeat (first | (apply eL1; · exact zT0) | rfl)) zT2 (ht_bools nd.length x (by omega) hxr.1 hxr.2) ?_
  rintro _ ⟨X, rfl, hXl⟩
  refine ⟨zT3, _, _, _, _, _, zT4, (by decide), (by simp only [upF, upS]; try rfl), ?_⟩
  repeat (first | refine F_mv zT0 rfl ?_ | refine F_nil zT1 ?_ | refine hx_seq ?_ | refine hx_region ?_)
  refine F_call (by (try simp only [List.map_cons, List.map_nil]); repeat (first | (apply eL1; · exact zT0) | rfl)) (by simp (disch := omega) only [thawL, Gs, HV.thaw, allIds, aget, nget, if_true, if_false, reduceIte, Nat.reduceEqDiff, stripL, HV.strip, win_intsE, win_boolsE, win_edgesE, Nat.mul_one, List.cons_append, List.nil_append, List.append_nil, I, Bl, T3, Es, List.getD_cons_zero, List.getD_cons_succ, HL.ints_strip, HL.bools_strip, trip_strip, edges_strip]; try rfl) (ht_cvalid w needs (by omega) hw h3) ?_
  rintro _ ⟨b1, rfl, hb1⟩
  refine ⟨zT3, _, _, _, _, _, zT4, (by decide), (by simp only [upF, upS]; try rfl), ?_⟩
  repeat (first | refine F_mv zT0 rfl ?_)
  refine F_call (by (try simp only [List.map_cons, List.map_nil]); repeat (first | (apply eL1; · exact zT0) | rfl)) (by simp (disch := omega) only [thawL, Gs, HV.thaw, allIds, aget, nget, if_true, if_false, reduceIte, Nat.reduceEqDiff, stripL, HV.strip, win_intsE, win_boolsE, win_edgesE, Nat.mul_one, List.cons_append, List.nil_append, List.append_nil, I, Bl, T3, Es, List.getD_cons_zero, List.getD_cons_succ, HL.ints_strip, HL.bools_strip, trip_strip, edges_strip]; try rfl) (ht_rvalid28 w needs (by omega) hw h3) ?_
  rintro _ ⟨b2, rfl, hb2⟩
  refine ⟨zT3, _, _, _, _, _, zT4, (by decide), (by simp only [upF, upS]; try rfl), ?_⟩
  obtain rfl : b1 = b2 := Bool.eq_iff_iff.2 (hb1.trans hb2.symm)
  repeat (first | refine F_mv zT0 rfl ?_ | refine F_yes (by rfl) (by rfl) ?_ | refine F_beq (by rfl) (by rfl) (by (try simp only [go_sem, reduceIte]); try rfl) ?_)
  refine F_call (by (try simp only [List.map_cons, List.map_nil]); repeat (first | (apply eL1; · exact zT0) | rfl)) (by simp (disch := omega) only [thawL, Gs, HV.thaw, allIds, aget, nget, if_true, if_false, reduceIte, Nat.reduceEqDiff, stripL, HV.strip, win_intsE, win_boolsE, win_edgesE, Nat.mul_one, List.cons_append, List.nil_append, List.append_nil, I, Bl, T3, Es, List.getD_cons_zero, List.getD_cons_succ, HL.ints_strip, HL.bools_strip, trip_strip, edges_strip]; try rfl) (ht_closed needs set (by omega) hs h3) ?_
  rintro _ rfl
  refine ⟨zT3, _, _, _, _, _, zT4, (by decide), (by simp only [upF, upS]; try rfl), ?_⟩
  repeat (first | refine F_mv zT0 rfl ?_ | refine F_yes (by rfl) (by rfl) ?_)
  refine F_call (by (try simp only [List.map_cons, List.map_nil]); repeat (first | (apply eL1; · exact zT0) | rfl)) (by simp (disch := omega) only [thawL, Gs, HV.thaw, allIds, aget, nget, if_true, if_false, reduceIte, Nat.reduceEqDiff, stripL, HV.strip, win_intsE, win_boolsE, win_edgesE, Nat.mul_one, List.cons_append, List.nil_append, List.append_nil, I, Bl, T3, Es, List.getD_cons_zero, List.getD_cons_succ, HL.ints_strip, HL.bools_strip, trip_strip, edges_strip]; try rfl) (ht_rclosed needs set (by omega) hs h3) ?_
  rintro _ rfl
  refine ⟨zT3, _, _, _, _, _, zT4, (by decide), (by simp only [upF, upS]; try rfl), ?_⟩
  repeat (first | refine F_mv zT0 rfl ?_ | refine F_yes (by rfl) (by rfl) ?_ | refine F_pickT (by rfl) zT0 ?_ | refine F_beq (by rfl) (by rfl) (by (try simp only [go_sem, reduceIte]); try rfl) ?_)
  refine F_call (by (try simp only [List.map_cons, List.map_nil]); repeat (first | (apply eL1; · exact zT0) | rfl)) (by simp (disch := omega) only [thawL, Gs, HV.thaw, allIds, aget, nget, if_true, if_false, reduceIte, Nat.reduceEqDiff, stripL, HV.strip, win_intsE, win_boolsE, win_edgesE, Nat.mul_one, List.cons_append, List.nil_append, List.append_nil, I, Bl, T3, Es, List.getD_cons_zero, List.getD_cons_succ, HL.ints_strip, HL.bools_strip, trip_strip, edges_strip]; try rfl) (ht_hull needs set (by omega) hs h3) ?_
  rintro _ ⟨o1, rfl, ho1⟩
  refine ⟨zT3, _, _, _, _, _, zT4, (by decide), (by simp only [upF, upS]; try rfl), ?_⟩
  repeat (first | refine F_mv zT0 rfl ?_ | refine F_yes (by rfl) (by rfl) ?_)
  refine F_call (by (try simp only [List.map_cons, List.map_nil]); repeat (first | (apply eL1; · exact zT0) | rfl)) (by simp (disch := omega) only [thawL, Gs, HV.thaw, allIds, aget, nget, if_true, if_false, reduceIte, Nat.reduceEqDiff, stripL, HV.strip, win_intsE, win_boolsE, win_edgesE, Nat.mul_one, List.cons_append, List.nil_append, List.append_nil, I, Bl, T3, Es, List.getD_cons_zero, List.getD_cons_succ, HL.ints_strip, HL.bools_strip, trip_strip, edges_strip]; try rfl) (ht_rhull needs set (by omega) hs h3) ?_
  rintro _ ⟨o2, rfl, ho2⟩
  refine ⟨zT3, _, _, _, _, _, zT4, (by decide), (by simp only [upF, upS]; try rfl), ?_⟩
  obtain rfl := hulls_eq ho1 ho2
  have ho1l := hull_len hs ho1
  have hsm := ht_same o1 o1 ho1l ho1l
  rw [decide_eq_true rfl] at hsm
  repeat (first | refine F_yes (by rfl) (by rfl) ?_)
  refine F_call (by (try simp only [List.map_cons, List.map_nil]); repeat (first | (apply eL1; · exact zT0) | rfl)) zT2 (hsm) ?_
  rintro _ rfl
  refine ⟨zT3, _, _, _, _, _, zT4, (by decide), (by simp only [upF, upS]; try rfl), ?_⟩
  have clA := ht_closed (nd.map nl) X (by omega) (by omega) h3n
  have rlA := ht_rclosed (nd.map nl) X (by omega) (by omega) h3n
  have hhA := ht_hull (nd.map nl) X (by omega) (by omega) h3n
  have rhA := ht_rhull (nd.map nl) X (by omega) (by omega) h3n
  simp only [Gs, Bl] at clA rlA hhA rhA
  rw [hnl, hXl] at clA rlA hhA rhA
  repeat (first | refine F_mv zT0 rfl ?_ | refine F_yes (by rfl) (by rfl) ?_ | refine F_pickT (by rfl) zT0 ?_)
  refine F_call (by (try simp only [List.map_cons, List.map_nil]); repeat (first | (apply eL1; · exact zT0) | rfl)) zT2 (clA) ?_
  rintro _ rfl
  refine ⟨zT3, _, _, _, _, _, zT4, (by decide), (by simp only [upF, upS]; try rfl), ?_⟩
  repeat (first | refine F_mv zT0 rfl ?_ | refine F_yes (by rfl) (by rfl) ?_)
  refine F_call (by (try simp only [List.map_cons, List.map_nil]); repeat (first | (apply eL1; · exact zT0) | rfl)) zT2 (rlA) ?_
  rintro _ rfl
  refine ⟨zT3, _, _, _, _, _, zT4, (by decide), (by simp only [upF, upS]; try rfl), ?_⟩
  repeat (first | refine F_mv zT0 rfl ?_ | refine F_yes (by rfl) (by rfl) ?_ | refine F_pickT (by rfl) zT0 ?_ | refine F_beq (by rfl) (by rfl) (by (try simp only [go_sem, reduceIte]); try rfl) ?_)
  refine F_call (by (try simp only [List.map_cons, List.map_nil]); repeat (first | (apply eL1; · exact zT0) | rfl)) zT2 (hhA) ?_
  rintro _ ⟨o3, rfl, ho3⟩
  refine ⟨zT3, _, _, _, _, _, zT4, (by decide), (by simp only [upF, upS]; try rfl), ?_⟩
  repeat (first | refine F_mv zT0 rfl ?_ | refine F_yes (by rfl) (by rfl) ?_)
  refine F_call (by (try simp only [List.map_cons, List.map_nil]); repeat (first | (apply eL1; · exact zT0) | rfl)) zT2 (rhA) ?_
  rintro _ ⟨o4, rfl, ho4⟩
  refine ⟨zT3, _, _, _, _, _, zT4, (by decide), (by simp only [upF, upS]; try rfl), ?_⟩
  obtain rfl := hulls_eq ho3 ho4
  have ho3l := hull_len (m := 9223372036854775807) (by omega) ho3
  have hsm3 := ht_same o3 o3 ho3l ho3l
  rw [decide_eq_true rfl] at hsm3
  repeat (first | refine F_yes (by rfl) (by rfl) ?_)
  refine F_call (by (try simp only [List.map_cons, List.map_nil]); repeat (first | (apply eL1; · exact zT0) | rfl)) zT2 (hsm3) ?_
  rintro _ rfl
  refine ⟨zT3, _, _, _, _, _, zT4, (by decide), (by simp only [upF, upS]; try rfl), ?_⟩
  repeat (first | refine F_mv zT0 rfl ?_ | refine F_yes (by rfl) (by rfl) ?_ | refine F_pickT (by rfl) zT0 ?_ | refine F_lenS (by rfl) ?_)
  refine F_call (by (try simp only [List.map_cons, List.map_nil]); repeat (first | (apply eL1; · exact zT0) | rfl)) zT2 (ht_weights l nd.length (by omega) hl hlr) ?_
  rintro _ ⟨v, rfl, hvl, hvk⟩
  refine ⟨zT3, _, _, _, _, _, zT4, (by decide), (by simp only [upF, upS]; try rfl), ?_⟩
  have hcv := ht_cvalid v (nd.map nl) (by omega) (by omega) h3n
  simp only [Gs, I] at hcv
  rw [hnl, hvl] at hcv
  repeat (first | refine F_mv zT0 rfl ?_ | refine F_yes (by rfl) (by rfl) ?_)
  refine F_call (by (try simp only [List.map_cons, List.map_nil]); repeat (first | (apply eL1; · exact zT0) | rfl)) zT2 (hcv) ?_
  rintro _ ⟨b3, rfl, hb3⟩
  refine ⟨zT3, _, _, _, _, _, zT4, (by decide), (by simp only [upF, upS]; try rfl), ?_⟩
  obtain rfl : b3 = true := hb3.2 (VW.of g hvk hvl)
  repeat (first | refine F_mv zT0 rfl ?_ | refine F_yes (by rfl) (by rfl) ?_ | refine F_pickT (by rfl) zT0 ?_)
  refine F_call (by (try simp only [List.map_cons, List.map_nil]); repeat (first | (apply eL1; · exact zT0) | rfl)) zT2 (ht_lives28) ?_
  rintro _ rfl
  refine ⟨zT3, _, _, _, _, _, zT4, (by decide), (by simp only [upF, upS]; try rfl), ?_⟩
  repeat (first | refine F_mv zT0 rfl ?_ | refine F_nil zT1 ?_ | refine F_pickT (by rfl) zT0 ?_)
  refine hx_retF (by (try simp only [List.map_cons, List.map_nil]); repeat (first | (apply eL1; · exact zT0) | rfl)) zT5 zT7 ?_
  rfl

set_option maxHeartbeats 16000000 in
theorem ht_lawSets (w : List Int) (needs : List (List Int)) (set : List Bool) (l : List Int) (x : Int) (hw : w.length ≤ 9223372036854775807) (hn : needs.length ≤ 9223372036854775807) (h3 : ∀ i, (needs.getD i []).length ≤ 9223372036854775807)
    (hs : set.length ≤ 9223372036854775807) (hl : l.length ≤ 9223372036854775807) (hlr : ∀ k, k < l.length → -9223372036854775808 ≤ l.getD k 0 ∧ l.getD k 0 ≤ 9223372036854775807) (hxr : -9223372036854775808 ≤ x ∧ x ≤ 9223372036854775807) :
    HT Try.prog 3 [I w, Gs needs, Bl set, I l, .int .i64 x] (fun r => r = .bool true) := by
  refine HT.of rfl fc3 (Nat.le_of_ble_eq_true rfl) ?_
  unfold c3
  simp only [I, Gs, Bl, argSlots, Nat.reduceAdd]
  refine hx_seq ?_
  refine hx_region ?_
  repeat (first | refine F_mv zT0 rfl ?_ | refine F_nil zT1 ?_)
  refine hx_seq ?_
  refine hx_seq ?_
  refine hx_region ?_
  by_cases hb : needs.length > 30
  · repeat (first | refine F_mv zT0 rfl ?_ | refine F_nil zT1 ?_ | refine F_lenS (by rfl) ?_ | refine F_gtr (by rfl) (by rfl) zT6 ?_)
    refine hx_true (by rfl) ?_
    refine hx_region ?_
    repeat (first | refine F_mv zT0 rfl ?_ | refine F_nil zT1 ?_ | refine F_slcS (by rfl) (by rfl) (by rfl) (by omega) (by (try simp only [go_sem]); try rfl) zT1 (by (try simp (disch := omega) only [go_sem, reduceIte, Nat.reduceEqDiff, Nat.reduceAdd, Nat.reduceMul]); try rfl) ?_)
    have hE := win_take needs
    refine hx_dropN [0, 1, 2, 3, 4] _ (congrArg (fun c : List HV => (⟨[(0, .sl w.length (HL.ints w)), (1, .sl (Int.toNat 30) c), (2, .sl set.length (HL.bools set)), (3, .sl l.length (HL.ints l)), (4, .int .i64 x)], [], 0⟩ : St)) hE) ?_
    have hk := sets_rest w (needs.take 30) set l x hw (by simp; omega) (fun i => by
      by_cases hi : i < 30
      · have := h3 i; rw [List.getD_eq_getElem?_getD] at this ⊢; rw [List.getElem?_take_of_lt hi]; exact this
      · rw [List.getD_eq_getElem?_getD, List.getElem?_eq_none (by simp; omega)]; simp) hs hl hlr hxr
    rw [show (needs.take 30).length = Int.toNat 30 by simp; omega] at hk
    exact hk
  · repeat (first | refine F_mv zT0 rfl ?_ | refine F_nil zT1 ?_ | refine F_lenS (by rfl) ?_ | refine F_gtr (by rfl) (by rfl) zT6 ?_)
    refine hx_false (by rfl) ?_
    repeat (first | refine hx_skip ?_)
    refine hx_dropN [0, 1, 2, 3, 4] (⟨[(0, .sl w.length (HL.ints w)), (1, .sl needs.length (rowsI needs)), (2, .sl set.length (HL.bools set)), (3, .sl l.length (HL.ints l)), (4, .int .i64 x)], [], 0⟩ : St) rfl ?_
    exact sets_rest w needs set l x hw (by omega) h3 hs hl hlr hxr

end Go.Proofs.Ytkhbiknjkffpjaa
