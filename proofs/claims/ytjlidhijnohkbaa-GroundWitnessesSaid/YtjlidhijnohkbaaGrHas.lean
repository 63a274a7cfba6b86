/-
  OWN WORK. Has and SameInts of the references; a store into rows that may only be read.
-/
import Derived.Test.YtjlidhijnohkbaaGrU
set_option linter.unusedSimpArgs false
set_option linter.unusedVariables false
namespace Go.Proofs.Ytjlidhijnohkbaa
open Go.RowKit Go.HL

set_option maxHeartbeats 1000000 in
theorem ht_ghas (l : List Int) (x : Int) (hl : l.length ≤ 9223372036854775807) : HT Try.prog 29 [I l, .int .i64 x] (fun r => ∃ b, r = .bool b ∧ (b = true ↔ x ∈ l)) := by
  refine HT.of rfl fc29 (Nat.le_of_ble_eq_true rfl) ?_
  unfold c29
  simp only [I, argSlots, Nat.reduceAdd]
  repeat (first | refine F_mv zT0 rfl ?_ | refine F_nil zT1 ?_ | refine hx_seq ?_ | refine hx_region ?_ | refine hx_block ?_)
  refine hx_loopG [0, 1, 5] (fun k : Nat => k ≤ l.length ∧ ∀ q, q < k → l.getD q 0 ≠ x) (fun k => ⟨[(0, .sl l.length (HL.ints l)), (1, .int .i64 x), (5, .int .i64 k)], [], 0⟩) (fun k => l.length - k) 0 ⟨by omega, by omega⟩ rfl ?_
  rintro k ⟨hk, hq⟩
  by_cases hkl : k < l.length
  · by_cases h : l.getD k 0 = x
    · repeat (first | refine F_mv zT0 rfl ?_ | refine F_iaS (by rfl) (by rfl) (by omega) zT1 ?_ | refine F_ldP (by rfl) (by (try simp only [go_sem]); first | omega | decide) (by (try simp (disch := omega) only [go_sem]); try rfl) ?_ | refine F_nil zT1 ?_ | refine F_lss (by rfl) (by rfl) zT6 ?_ | refine F_eql (by rfl) (by rfl) (by first | exact eqT (by omega) | exact eqF (by omega) | rfl) ?_ | refine F_lenS (by rfl) ?_ | refine hx_true (by rfl) ?_ | refine hx_seq ?_ | refine hx_region ?_ | refine hx_block ?_ | refine hx_skip ?_)
      refine hx_retF (by (try simp only [List.map_cons, List.map_nil]); repeat (first | (apply eL1; · exact zT0) | rfl)) zT5 zT7 ?_
      exact ⟨true, rfl, by simp; rw [← h]; exact getD_mem l k 0 hkl⟩
    · repeat (first | refine F_mv zT0 rfl ?_ | refine F_iaS (by rfl) (by rfl) (by omega) zT1 ?_ | refine F_ldP (by rfl) (by (try simp only [go_sem]); first | omega | decide) (by (try simp (disch := omega) only [go_sem]); try rfl) ?_ | refine F_nil zT1 ?_ | refine F_lss (by rfl) (by rfl) zT6 ?_ | refine F_eql (by rfl) (by rfl) (by first | exact eqT (by omega) | exact eqF (by omega) | rfl) ?_ | refine F_add (by rfl) (by rfl) zT11 ?_ | refine F_lenS (by rfl) ?_ | refine hx_true (by rfl) ?_ | refine hx_false (by rfl) ?_ | refine hx_seq ?_ | refine hx_region ?_ | refine hx_block ?_ | refine hx_b ?_ | refine hx_skip ?_)
      refine hx_lG [0, 1, 5] (k + 1) ⟨hkl, fun q hq' => ?_⟩ (by omega) rfl
      by_cases e : q = k
      · subst e; exact h
      · exact hq q (by omega)
  · repeat (first | refine F_mv zT0 rfl ?_ | refine F_nil zT1 ?_ | refine F_lss (by rfl) (by rfl) zT6 ?_ | refine F_lenS (by rfl) ?_ | refine hx_exitS (by rfl) ?_ | refine hx_false (by rfl) ?_ | refine hx_seq ?_ | refine hx_region ?_)
    refine hx_retF (by (try simp only [List.map_cons, List.map_nil]); repeat (first | (apply eL1; · exact zT0) | rfl)) zT5 zT7 ?_
    refine ⟨false, rfl, ?_⟩
    simp only [Bool.false_eq_true, false_iff]
    intro hx
    obtain ⟨q, hql, h⟩ := mem_getD 0 hx
    exact hq q (by omega) h

set_option maxHeartbeats 1000000 in
theorem ht_same01 (l m : List Int) (h1 : l.length ≤ 9223372036854775807) (h2 : m.length ≤ 9223372036854775807) : HT Try.prog 16 [I l, I m] (fun r => ∃ b, r = .bool b ∧ (b = true ↔ l = m)) := by
  refine HT.of rfl fc16 (Nat.le_of_ble_eq_true rfl) ?_
  unfold c16
  simp only [I, argSlots, Nat.reduceAdd]
  by_cases hlen : l.length = m.length
  · repeat (first | refine F_mv zT0 rfl ?_ | refine F_nil zT1 ?_ | refine F_neq (by rfl) (by rfl) (by first | exact neF (by omega) | exact neT (by omega) | rfl) ?_ | refine F_lenS (by rfl) ?_ | refine hx_false (by rfl) ?_ | refine hx_seq ?_ | refine hx_region ?_ | refine hx_block ?_ | refine hx_skip ?_)
    refine hx_loopG [0, 1, 5] (fun k : Nat => k ≤ l.length ∧ ∀ q, q < k → l.getD q 0 = m.getD q 0) (fun k => ⟨[(0, .sl l.length (HL.ints l)), (1, .sl m.length (HL.ints m)), (5, .int .i64 k)], [], 0⟩) (fun k => l.length - k) 0 ⟨by omega, by omega⟩ rfl ?_
    rintro k ⟨hk, hq⟩
    by_cases hkl : k < l.length
    · by_cases h : l.getD k 0 = m.getD k 0
      · repeat (first | refine F_mv zT0 rfl ?_ | refine F_nil zT1 ?_ | refine F_lss (by rfl) (by rfl) zT6 ?_ | refine F_lenS (by rfl) ?_ | refine hx_true (by rfl) ?_ | refine hx_seq ?_ | refine hx_region ?_ | refine hx_block ?_ | refine hx_skip ?_)
        refine hx_draw (by kernel_rfl) (by kernel_rfl) (fun _ _ _ => False) ?_
        repeat (first | refine F_mv zT0 rfl ?_ | refine F_iaS (by rfl) (by rfl) (by omega) zT1 ?_ | refine F_ldP (by rfl) (by (try simp only [go_sem]); first | omega | decide) (by (try simp (disch := omega) only [go_sem]); try rfl) ?_ | refine F_nil zT1 ?_ | refine F_neq (by rfl) (by rfl) (by first | exact neF (by omega) | exact neT (by omega) | rfl) ?_ | refine F_add (by rfl) (by rfl) zT11 ?_ | refine hx_false (by rfl) ?_ | refine hx_region ?_ | refine hx_b ?_ | refine hx_skip ?_)
        refine hx_lG [0, 1, 5] (k + 1) ⟨hkl, fun q hq' => ?_⟩ (by omega) rfl
        by_cases e : q = k
        · subst e; exact h
        · exact hq q (by omega)
      · repeat (first | refine F_mv zT0 rfl ?_ | refine F_nil zT1 ?_ | refine F_lss (by rfl) (by rfl) zT6 ?_ | refine F_lenS (by rfl) ?_ | refine hx_true (by rfl) ?_ | refine hx_seq ?_ | refine hx_region ?_ | refine hx_block ?_ | refine hx_skip ?_)
        refine hx_draw (by kernel_rfl) (by kernel_rfl) (fun _ _ _ => False) ?_
        repeat (first | refine F_mv zT0 rfl ?_ | refine F_iaS (by rfl) (by rfl) (by omega) zT1 ?_ | refine F_ldP (by rfl) (by (try simp only [go_sem]); first | omega | decide) (by (try simp (disch := omega) only [go_sem]); try rfl) ?_ | refine F_nil zT1 ?_ | refine F_neq (by rfl) (by rfl) (by first | exact neF (by omega) | exact neT (by omega) | rfl) ?_ | refine hx_true (by rfl) ?_ | refine hx_seq ?_ | refine hx_region ?_)
        refine hx_retF (by (try simp only [List.map_cons, List.map_nil]); repeat (first | (apply eL1; · exact zT0) | rfl)) zT5 zT7 ?_
        exact ⟨false, rfl, by simp; intro e; subst e; exact h rfl⟩
    · repeat (first | refine F_mv zT0 rfl ?_ | refine F_nil zT1 ?_ | refine F_lss (by rfl) (by rfl) zT6 ?_ | refine F_lenS (by rfl) ?_ | refine hx_exitS (by rfl) ?_ | refine hx_false (by rfl) ?_ | refine hx_seq ?_ | refine hx_region ?_)
      refine hx_retF (by (try simp only [List.map_cons, List.map_nil]); repeat (first | (apply eL1; · exact zT0) | rfl)) zT5 zT7 ?_
      refine ⟨true, rfl, fun _ => ?_, fun _ => rfl⟩
      apply List.ext_getElem hlen
      intro i a b
      have := hq i (by omega)
      rwa [ggetD_lt a, ggetD_lt b] at this
  · repeat (first | refine F_mv zT0 rfl ?_ | refine F_nil zT1 ?_ | refine F_neq (by rfl) (by rfl) (by first | exact neF (by omega) | exact neT (by omega) | rfl) ?_ | refine F_lenS (by rfl) ?_ | refine hx_true (by rfl) ?_ | refine hx_seq ?_ | refine hx_region ?_)
    refine hx_retF (by (try simp only [List.map_cons, List.map_nil]); repeat (first | (apply eL1; · exact zT0) | rfl)) zT5 zT7 ?_
    exact ⟨false, rfl, by simp; intro e; subst e; exact hlen rfl⟩

end Go.Proofs.Ytjlidhijnohkbaa
