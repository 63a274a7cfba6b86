/-
  OWN WORK. Fits and Closed of package closure and of its reference, in the value language.
-/
import Derived.Test.YtkhbiknjkffpjaaClFits
set_option linter.unusedSimpArgs false
set_option linter.unusedVariables false
namespace Go.Proofs.Ytkhbiknjkffpjaa
open Go.RowKit Go.SL Go.HL

/-- A node of the set needs one that is not in it. -/
def lacks (g : List (List Int)) (set : List Bool) (i : Nat) : Bool := set.getD i false && (g.getD i []).any fun j => !(set.getD j.toNat false)
def closedB (g : List (List Int)) (set : List Bool) : Bool := fitsB g set && !((List.range g.length).any (lacks g set))
theorem fits_in {g : List (List Int)} {set : List Bool} (h : fitsB g set = true) : g.length = set.length ∧ ∀ i j, j ∈ g.getD i [] → 0 ≤ j ∧ j < set.length := by
  unfold fitsB at h
  simp only [Bool.and_eq_true, decide_eq_true_eq, Bool.not_eq_true', List.any_eq_false] at h
  refine ⟨h.1, fun i j hj => ?_⟩
  by_cases hi : i < g.length
  · have := h.2 _ (getD_memI g [] hi)
    simp only [Bool.not_eq_true, List.any_eq_false] at this
    have := this j hj
    simp [outB] at this
    omega
  · rw [List.getD_eq_getElem?_getD, List.getElem?_eq_none (by omega)] at hj; cases hj
theorem any_range_succ (n : Nat) (p : Nat → Bool) : (List.range (n + 1)).any p = ((List.range n).any p || p n) := by simp [List.range_succ]
theorem any_range_of {n m : Nat} (p : Nat → Bool) (h : (List.range n).any p = true) (hm : n ≤ m) : (List.range m).any p = true := by
  rw [List.any_eq_true] at h ⊢
  obtain ⟨x, hx, h2⟩ := h
  exact ⟨x, List.mem_range.2 (by have := List.mem_range.1 hx; omega), h2⟩

theorem ht_cl1 (x : Int) (set : List Bool) (h0 : 0 ≤ x) (h1 : x < set.length) : HT Try.prog 42 [.int .i64 x, .ptr [.sl set.length (HL.bools set)] 0] (fun r => r = .bool (!(set.getD x.toNat false))) := by
  refine HT.of rfl fc42 (Nat.le_of_ble_eq_true rfl) ?_
  unfold c42
  simp only [argSlots, Nat.reduceAdd]
  obtain ⟨b, hb⟩ : ∃ b, set.getD x.toNat false = b := ⟨_, rfl⟩
  cases b with
  | true =>
    repeat (first | refine F_mv zT0 rfl ?_ | refine F_iaS (by rfl) (by rfl) (by omega) zT1 ?_ | refine F_ldP (by rfl) (by (try simp only [go_sem]); first | omega | decide) (by (try simp (disch := omega) only [go_sem, hb]); try rfl) ?_ | refine F_nil zT1 ?_ | refine hx_seq ?_ | refine hx_region ?_ | refine F_notT (by rfl) ?_)
    refine hx_retF (by (try simp only [List.map_cons, List.map_nil]); repeat (first | (apply eL1; · exact zT0) | rfl)) zT5 zT7 ?_
    rw [hb]; rfl
  | false =>
    repeat (first | refine F_mv zT0 rfl ?_ | refine F_iaS (by rfl) (by rfl) (by omega) zT1 ?_ | refine F_ldP (by rfl) (by (try simp only [go_sem]); first | omega | decide) (by (try simp (disch := omega) only [go_sem, hb]); try rfl) ?_ | refine F_nil zT1 ?_ | refine hx_seq ?_ | refine hx_region ?_ | refine F_notF (by rfl) ?_)
    refine hx_retF (by (try simp only [List.map_cons, List.map_nil]); repeat (first | (apply eL1; · exact zT0) | rfl)) zT5 zT7 ?_
    rw [hb]; rfl

set_option maxHeartbeats 4000000 in
theorem ht_closed (g : List (List Int)) (set : List Bool) (h1 : g.length ≤ 9223372036854775807) (h2 : set.length ≤ 9223372036854775807) (h3 : ∀ i, (g.getD i []).length ≤ 9223372036854775807) :
    HT Try.prog 15 [Gs g, Bl set] (fun r => r = .bool (closedB g set)) := by
  refine HT.of rfl fc15 (Nat.le_of_ble_eq_true rfl) ?_
  unfold c15
  simp only [Gs, Bl, argSlots, Nat.reduceAdd]
  unfold closedB
  repeat (first | refine F_mv zT0 rfl ?_ | refine F_ldR (by rfl) (by first | exact eO rfl | exact eW rfl) (by (try simp only [go_sem]); try rfl) (by (try simp only [go_sem]); first | omega | decide) (by (try simp (disch := omega) only [go_sem]); try rfl) zT0 ?_ | refine F_nil zT1 ?_ | refine hx_seq ?_ | refine hx_region ?_ | refine F_newv zT1 zT0 (by (try simp only [go_sem]); try rfl) zT10 (by rfl) ?_)
  refine F_call (by (try simp only [List.map_cons, List.map_nil]); repeat (first | (apply eL1; · exact zT0) | rfl)) (by simp (disch := omega) only [thawL, Gs, HV.thaw, allIds, aget, nget, if_true, if_false, reduceIte, Nat.reduceEqDiff, stripL, HV.strip, win_intsE, win_boolsE, win_edgesE, Nat.mul_one, List.cons_append, List.nil_append, List.append_nil, I, Bl, T3, Es, List.getD_cons_zero, List.getD_cons_succ, HL.ints_strip, HL.bools_strip, trip_strip, edges_strip]; try rfl) (ht_fits g set h1 h2 h3) ?_
  rintro _ rfl
  refine ⟨zT3, _, _, _, _, _, zT4, (by decide), (by simp only [upF, upS]; try rfl), ?_⟩
  cases hf : fitsB g set with
  | false =>
    repeat (first | refine F_mv zT0 rfl ?_ | refine F_nil zT1 ?_ | refine hx_true (by rfl) ?_ | refine hx_seq ?_ | refine hx_region ?_ | refine F_notF (by rfl) ?_)
    refine hx_retF (by (try simp only [List.map_cons, List.map_nil]); repeat (first | (apply eL1; · exact zT0) | rfl)) zT5 zT7 ?_
    simp [tupOf]
  | true =>
    obtain ⟨he, hin⟩ := fits_in hf
    repeat (first | refine F_mv zT0 rfl ?_ | refine F_ldR (by rfl) (by first | exact eO rfl | exact eW rfl) (by (try simp only [go_sem]); try rfl) (by (try simp only [go_sem]); first | omega | decide) (by (try simp (disch := omega) only [go_sem]); try rfl) zT0 ?_ | refine F_nil zT1 ?_ | refine F_lenS (by rfl) ?_ | refine hx_false (by rfl) ?_ | refine hx_seq ?_ | refine hx_region ?_ | refine hx_block ?_ | refine hx_skip ?_ | refine F_notT (by rfl) ?_)
    refine hx_loopG [0, 3, 11, 12, 13] (fun i : Nat => i ≤ g.length ∧ (List.range i).any (lacks g set) = false) (fun i => ⟨[(0, .sl g.length (rowsI g)), (3, .pref 0 [] 0), (11, .sl set.length (HL.bools set)), (12, .int .i64 set.length), (13, .int .i64 i)], [(0, .optr [.sl set.length (HL.bools set)])], 1⟩) (fun i => g.length - i) 0 ⟨by omega, rfl⟩ rfl ?_
    rintro i ⟨hi, hno⟩
    by_cases hil : i < g.length
    · obtain ⟨row, hrow⟩ : ∃ row, g.getD i [] = row := ⟨_, rfl⟩
      have hrl := h3 i
      rw [hrow] at hrl
      have hst := any_range_succ i (lacks g set)
      rw [hno, Bool.false_or] at hst
      have hlk : lacks g set i = (set.getD i false && row.any fun j => !(set.getD j.toNat false)) := by unfold lacks; rw [hrow]
      cases hsi : set.getD i false with
      | false =>
        rw [hsi, Bool.false_and] at hlk
        repeat (first | refine F_mv zT0 rfl ?_ | refine F_no (by rfl) (by rfl) ?_ | refine F_iaS (by rfl) (by rfl) (by omega) zT1 ?_ | refine F_ldP (by rfl) (by (try simp only [go_sem]); first | omega | decide) (by (try simp (disch := omega) only [go_sem, hsi]); try rfl) ?_ | refine F_nil zT1 ?_ | refine F_lss (by rfl) (by rfl) zT6 ?_ | refine F_pickF (by rfl) zT0 ?_ | refine F_add (by rfl) (by rfl) (by (try simp (disch := omega) only [go_sem, Int.reduceAdd, Int.reduceSub, Int.reduceMul, hsi]); try rfl) ?_ | refine hx_true (by rfl) ?_ | refine hx_false (by rfl) ?_ | refine hx_seq ?_ | refine hx_region ?_ | refine hx_block ?_ | refine hx_b ?_ | refine hx_skip ?_)
        exact hx_lG [0, 3, 11, 12, 13] (i + 1) ⟨hil, hst.trans hlk⟩ (by omega) rfl
      | true =>
        rw [hsi, Bool.true_and] at hlk
        repeat (first | refine F_mv zT0 rfl ?_ | refine F_yes (by rfl) (by rfl) ?_ | refine F_iaS (by rfl) (by rfl) (by omega) zT1 ?_ | refine F_ldP (by rfl) (by (try simp only [go_sem]); first | omega | decide) (by (try simp (disch := omega) only [go_sem, hsi, hrow]); try rfl) ?_ | refine F_nil zT1 ?_ | refine F_lss (by rfl) (by rfl) zT6 ?_ | refine hx_true (by rfl) ?_ | refine hx_seq ?_ | refine hx_region ?_ | refine hx_block ?_ | refine hx_skip ?_)
        refine F_mkfn (by (try simp only [List.map_cons, List.map_nil]); repeat (first | (apply eL1; · exact zT0) | rfl)) ?_
        repeat (first | refine F_yes (by rfl) (by rfl) ?_)
        refine F_call (by (try simp only [List.map_cons, List.map_nil]); repeat (first | (apply eL1; · exact zT0) | rfl)) zT2 (ht_any row set.length set _ (fun j => !(set.getD j.toNat false)) hrl fun x hx => ht_cl1 x set (hin i x (hrow ▸ hx)).1 (hin i x (hrow ▸ hx)).2) ?_
        rintro _ rfl
        refine ⟨zT3, _, _, _, _, _, zT4, (by decide), (by simp only [upF, upS]; try rfl), ?_⟩
        cases hb : (row.any fun j => !(set.getD j.toNat false)) with
        | true =>
          repeat (first | refine F_mv zT0 rfl ?_ | refine F_nil zT1 ?_ | refine F_pickT (by rfl) zT0 ?_ | refine hx_true (by rfl) ?_ | refine hx_seq ?_ | refine hx_region ?_)
          refine hx_retF (by (try simp only [List.map_cons, List.map_nil]); repeat (first | (apply eL1; · exact zT0) | rfl)) zT5 zT7 ?_
          rw [any_range_of (lacks g set) (hst.trans (hlk.trans hb)) (show i + 1 ≤ g.length by omega)]; simp [tupOf]
        | false =>
          repeat (first | refine F_mv zT0 rfl ?_ | refine F_nil zT1 ?_ | refine F_pickT (by rfl) zT0 ?_ | refine F_add (by rfl) (by rfl) zT11 ?_ | refine hx_false (by rfl) ?_ | refine hx_region ?_ | refine hx_b ?_ | refine hx_skip ?_)
          exact hx_lG [0, 3, 11, 12, 13] (i + 1) ⟨hil, hst.trans (hlk.trans hb)⟩ (by omega) rfl
    · obtain rfl : i = g.length := by omega
      repeat (first | refine F_mv zT0 rfl ?_ | refine F_nil zT1 ?_ | refine F_lss (by rfl) (by rfl) zT6 ?_ | refine hx_exitS (by rfl) ?_ | refine hx_false (by rfl) ?_ | refine hx_seq ?_ | refine hx_region ?_)
      refine hx_retF (by (try simp only [List.map_cons, List.map_nil]); repeat (first | (apply eL1; · exact zT0) | rfl)) zT5 zT7 ?_
      rw [hno]; simp [tupOf]

end Go.Proofs.Ytkhbiknjkffpjaa
