/-
  OWN WORK. Several small texts in one.
-/
import Derived.Test.YtkhbiknjkffpjaaClMax
import Derived.Test.YtkhbiknjkffpjaaFlChk
import Derived.Test.YtkhbiknjkffpjaaGrBig
import Derived.Test.YtkhbiknjkffpjaaClClsd
section
set_option linter.unusedSimpArgs false
set_option linter.unusedVariables false
namespace Go.Proofs.Ytkhbiknjkffpjaa
open Go.RowKit Go.SL Go.HL

def BoundR (w : List Int) (nd : List (List Nat)) (fl : List Int) (x y : Int) : Prop :=
  (fl.length ≠ (netE w nd).length ∧ x = 0 ∧ y = 1) ∨ (fl.length = (netE w nd).length ∧ ∃ v e, CheckR (nd.length + 2) nd.length ((nd.length : Int) + 1) (netE w nd) fl v e ∧ (e ≠ 0 ∧ x = 0 ∧ y = e ∨ e = 0 ∧ x = posS w nd.length - v ∧ y = 0))
theorem CheckR.bd {n : Nat} {s t : Int} {es : List Edge} {fl : List Int} {v e : Int} (h : CheckR n s t es fl v e) (hc : ∀ e ∈ es, e.c ≤ 1099511627776) (hl : es.length ≤ 65536) : -72057594037927936 ≤ v ∧ v ≤ 72057594037927936 := by
  rcases h with ⟨_, rfl, _⟩ | ⟨_, _, rfl, _⟩ | ⟨hok, _, rfl, _⟩
  · omega
  · omega
  · have hb := nets_bd n es fl es.length hc (Nat.le_refl _) hok
    by_cases hs : s.toNat < (nets n es fl es.length).length
    · have := hb ((nets n es fl es.length).getD s.toNat 0) (by rw [List.getD_eq_getElem?_getD, List.getElem?_eq_getElem hs, Option.getD_some]; exact List.getElem_mem hs)
      omega
    · rw [List.getD_eq_getElem?_getD, List.getElem?_eq_none (by omega)]; simp

theorem bound_flow {w : List Int} {nd : List (List Nat)} {bad : List Bool} {fl : List Int} {x y : Int} (g : Gr nd bad) (hw : WOK w) (hf : IsFlow ((nd.length : Int) + 2) nd.length ((nd.length : Int) + 1) (netE w nd) fl) (h : BoundR w nd fl x y) : y = 0 ∧ x = posS w nd.length - balE (netE w nd) fl nd.length (netE w nd).length := by
  rcases h with ⟨h, _⟩ | ⟨_, v, e, hR, h⟩
  · exact absurd hf.len h
  · obtain ⟨h1, h2⟩ := check_flow (n := nd.length + 2) (s := nd.length) (t := nd.length + 1) (netE_okN g hw) hf hR
    rcases h with ⟨h, _⟩ | ⟨_, h3, h4⟩
    · exact absurd h2 h
    · exact ⟨h4, by rw [h3, h1]⟩

set_option maxHeartbeats 2000000 in
theorem ht_weight (w : List Int) (X : List Bool) (hw : WOK w) (n : Nat) (hn : n ≤ 300) (hl : w.length = n) (hX : X.length = n) : HT Try.prog 32 [I w, Bl X] (fun r => r = .int .i64 (wS w X n)) := by
  refine HT.of rfl fc32 (Nat.le_of_ble_eq_true rfl) ?_
  unfold c32
  simp only [I, Bl, argSlots, Nat.reduceAdd]
  rw [hl, hX]
  repeat (first | refine F_mv zT0 rfl ?_ | refine F_nil zT1 ?_ | refine hx_seq ?_ | refine hx_region ?_ | refine hx_block ?_)
  refine hx_loopG [0, 1, 5, 6] (fun i : Nat => i ≤ n) (fun i => ⟨[(0, .sl n (HL.ints w)), (1, .sl n (HL.bools X)), (5, .int .i64 (wS w X i)), (6, .int .i64 i)], [], 0⟩) (fun i => n - i) 0 (by omega) rfl ?_
  rintro i hi
  have hbd := wS_bd hw X i
  by_cases hin : i < n
  · have hwi := hw i
    have hnx : wS w X (i + 1) = wS w X i + if X.getD i false then w.getD i 0 else 0 := rfl
    obtain ⟨x, hx⟩ : ∃ x, w.getD i 0 = x := ⟨_, rfl⟩
    rw [hx] at hwi hnx
    cases hb : X.getD i false with
    | true =>
      rw [hb, if_pos rfl] at hnx
      repeat (first | refine F_mv zT0 rfl ?_ | refine F_yes (by rfl) (by rfl) ?_ | refine F_iaS (by rfl) (by rfl) (by omega) zT1 ?_ | refine F_ldP (by rfl) (by (try simp only [go_sem]); first | omega | decide) (by (try simp (disch := omega) only [go_sem, hb, hx]); try rfl) ?_ | refine F_nil zT1 ?_ | refine F_lss (by rfl) (by rfl) zT6 ?_ | refine F_pickT (by rfl) zT0 ?_ | refine F_add (by rfl) (by rfl) (by (try simp (disch := omega) only [go_sem, Int.reduceAdd, Int.reduceSub, Int.reduceMul, hb, hx]); try rfl) ?_ | refine F_lenS (by rfl) ?_ | refine hx_true (by rfl) ?_ | refine hx_seq ?_ | refine hx_region ?_ | refine hx_block ?_ | refine hx_b ?_ | refine hx_skip ?_)
      exact hx_lG [0, 1, 5, 6] (i + 1) hin (by omega) (by rw [hnx]; rfl)
    | false =>
      rw [hb, if_neg (by decide), Int.add_zero] at hnx
      repeat (first | refine F_mv zT0 rfl ?_ | refine F_yes (by rfl) (by rfl) ?_ | refine F_iaS (by rfl) (by rfl) (by omega) zT1 ?_ | refine F_ldP (by rfl) (by (try simp only [go_sem]); first | omega | decide) (by (try simp (disch := omega) only [go_sem, hb, hx]); try rfl) ?_ | refine F_nil zT1 ?_ | refine F_lss (by rfl) (by rfl) zT6 ?_ | refine F_pickT (by rfl) zT0 ?_ | refine F_add (by rfl) (by rfl) (by (try simp (disch := omega) only [go_sem, Int.reduceAdd, Int.reduceSub, Int.reduceMul, hb, hx]); try rfl) ?_ | refine F_lenS (by rfl) ?_ | refine hx_true (by rfl) ?_ | refine hx_false (by rfl) ?_ | refine hx_seq ?_ | refine hx_region ?_ | refine hx_block ?_ | refine hx_b ?_ | refine hx_skip ?_)
      exact hx_lG [0, 1, 5, 6] (i + 1) hin (by omega) (by rw [hnx]; rfl)
  · obtain rfl : i = n := by omega
    repeat (first | refine F_mv zT0 rfl ?_ | refine F_no (by rfl) (by rfl) ?_ | refine F_nil zT1 ?_ | refine F_lss (by rfl) (by rfl) zT6 ?_ | refine F_pickF (by rfl) zT0 ?_ | refine F_lenS (by rfl) ?_ | refine hx_exitS (by rfl) ?_ | refine hx_false (by rfl) ?_ | refine hx_seq ?_ | refine hx_region ?_)
    refine hx_retF (by (try simp only [List.map_cons, List.map_nil]); repeat (first | (apply eL1; · exact zT0) | rfl)) zT5 zT7 ?_
    rfl

end Go.Proofs.Ytkhbiknjkffpjaa
end
section
set_option linter.unusedSimpArgs false
set_option linter.unusedVariables false
namespace Go.Proofs.Ytkhbiknjkffpjaa
open Go.RowKit Go.SL Go.HL

set_option maxHeartbeats 4000000 in
theorem ht_ggraph (l : List Int) (hl : l.length ≤ 9223372036854775807) : HT Try.prog 11 [I l] (fun r => ∃ nd bad, r = .tup [.osl 1 nd.length (rowsO nd), .osl 1 nd.length (HL.bools bad)] ∧ nd.length ≤ 9 ∧ Gr nd bad ∧ ∀ i, (nd.getD i []).length ≤ 3) := by
  refine HT.of rfl fc11 (Nat.le_of_ble_eq_true rfl) ?_
  unfold c11
  simp only [I, argSlots, Nat.reduceAdd]
  repeat (first | refine F_mv zT0 rfl ?_ | refine F_nil zT1 ?_ | refine hx_seq ?_ | refine hx_region ?_ | refine F_mvnil rfl (by rfl) zT1 ?_)
  refine F_call (by (try simp only [List.map_cons, List.map_nil]); repeat (first | (apply eL1; · exact zT0) | rfl)) zT2 (ht_gnum l 0 (by omega) (by omega) hl) ?_
  rintro _ ⟨x, rfl, hx1, hx2⟩
  refine ⟨zT3, _, _, _, _, _, zT4, (by decide), (by simp only [upF, upS]; try rfl), ?_⟩
  skip
  refine F_call (by (try simp only [List.map_cons, List.map_nil]); repeat (first | (apply eL1; · exact zT0) | rfl)) zT2 (ht_gmod x 10 (by omega) (by omega)) ?_
  rintro _ rfl
  have e0 := Int.emod_nonneg x (show (10 : Int) ≠ 0 by omega)
  have e1 := Int.emod_lt_of_pos x (show (0 : Int) < 10 by omega)
  obtain ⟨m, hm⟩ : ∃ m : Nat, (m : Int) = x % 10 := ⟨(x % 10).toNat, by omega⟩
  rw [← hm] at e0 e1 ⊢
  refine ⟨zT3, _, _, _, _, _, zT4, (by decide), (by simp only [upF, upS]; try rfl), ?_⟩
  clear hm
  skip
  refine F_call (by (try simp only [List.map_cons, List.map_nil]); repeat (first | (apply eL1; · exact zT0) | rfl)) zT2 (ht_gbig l m (by omega) hl) ?_
  rintro _ ⟨nd, bad, rfl, hnm, g, hd3⟩
  refine ⟨zT3, _, _, _, _, _, zT4, (by decide), (by simp only [upF, upS]; try rfl), ?_⟩
  subst hnm
  repeat (first | refine F_mv zT0 rfl ?_ | refine F_nil zT1 ?_ | refine F_ext (by rfl) (by (try simp only [go_sem]); first | omega | decide) zT0 ?_)
  refine hx_retF (by (try simp only [List.map_cons, List.map_nil]); repeat (first | (apply eL1; · exact zT0) | rfl)) zT5 zT7 ?_
  exact ⟨nd, bad, rfl, by omega, g, hd3⟩

end Go.Proofs.Ytkhbiknjkffpjaa
end
section
set_option linter.unusedSimpArgs false
set_option linter.unusedVariables false
namespace Go.Proofs.Ytkhbiknjkffpjaa
open Go.RowKit Go.SL Go.HL

theorem fits_gr {nd : List (List Nat)} {bad : List Bool} (g : Gr nd bad) {X : List Bool} (hX : X.length = nd.length) : fitsB (nd.map nl) X = true := by
  unfold fitsB
  simp only [List.length_map, hX, decide_true, Bool.true_and, Bool.not_eq_true', List.any_eq_false]
  intro r hr
  obtain ⟨row, hrow, rfl⟩ := List.mem_map.1 hr
  simp only [Bool.not_eq_true, List.any_eq_false]
  intro x hx
  obtain ⟨y, hy, rfl⟩ := List.mem_map.1 hx
  obtain ⟨i, hi, rfl⟩ := mem_getD [] hrow
  have := g.lt i y hy
  simp [outB]
  omega

end Go.Proofs.Ytkhbiknjkffpjaa
end
