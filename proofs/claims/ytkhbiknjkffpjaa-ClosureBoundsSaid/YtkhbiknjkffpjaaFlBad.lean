/-
  OWN WORK. Contracts for networks that may not be valid, in the value language.
-/
import Derived.Test.YtkhbiknjkffpjaaFlHt
import Derived.Test.YtkhbiknjkffpjaaClNetP
set_option linter.unusedSimpArgs false
set_option linter.unusedVariables false
namespace Go.Proofs.Ytkhbiknjkffpjaa
open Go.RowKit Go.SL Go.HL

def IsB (p : Prop) (r : HV) : Prop := ∃ b : Bool, r = .bool b ∧ (b = true ↔ p)

theorem ht_valid (n s t : Int) (es : List Edge) (hl : es.length ≤ 9223372036854775807) : HT Try.prog 52 [.int .i64 n, Es es, .int .i64 s, .int .i64 t] (IsB (VNet n s t es)) := by
  refine ⟨callable fc52, fun w rargs F hF ho => ?_⟩
  obtain ⟨_, _, rfl, o1, q2⟩ := of_consE ho
  obtain ⟨_, _, rfl, o2, q3⟩ := of_consE q2
  obtain ⟨_, _, rfl, o3, q4⟩ := of_consE q3
  obtain ⟨_, _, rfl, o4, q5⟩ := of_consE q4
  obtain rfl := of_nilE q5
  obtain ⟨a, cap, rfl, hr⟩ := rd_edges hF o2
  obtain rfl := of_int o1
  obtain rfl := of_int o3
  obtain rfl := of_int o4
  refine (valid_any n a _ cap es s t w hr rfl hl).mono ?_
  rintro e w' ⟨b, rfl, hb, hB⟩
  exact gives_plain ⟨b, rfl, hb⟩ hB fun F h => .bool .nil

set_option maxHeartbeats 4000000 in
theorem ht_rvalid (n s t : Int) (es : List Edge) (hl : es.length ≤ 9223372036854775807) : HT Try.prog 60 [.int .i64 n, Es es, .int .i64 s, .int .i64 t] (IsB (VNet n s t es)) := by
  refine HT.of rfl fc60 (Nat.le_of_ble_eq_true rfl) ?_
  unfold c60
  simp only [Es, argSlots, Nat.reduceAdd]
  have key : (2 ≤ n ∧ n ≤ 258 ∧ 0 ≤ s ∧ s < n ∧ 0 ≤ t ∧ t < n ∧ ¬ s = t ∧ es.length ≤ 65536) ∨ (n < 2 ∨ (2 ≤ n ∧ n > 258) ∨ (2 ≤ n ∧ n ≤ 258 ∧ s < 0) ∨ (2 ≤ n ∧ n ≤ 258 ∧ 0 ≤ s ∧ n ≤ s) ∨ (2 ≤ n ∧ n ≤ 258 ∧ 0 ≤ s ∧ s < n ∧ t < 0) ∨
    (2 ≤ n ∧ n ≤ 258 ∧ 0 ≤ s ∧ s < n ∧ 0 ≤ t ∧ n ≤ t) ∨ (2 ≤ n ∧ n ≤ 258 ∧ 0 ≤ s ∧ s < n ∧ 0 ≤ t ∧ t < n ∧ s = t) ∨ (2 ≤ n ∧ n ≤ 258 ∧ 0 ≤ s ∧ s < n ∧ 0 ≤ t ∧ t < n ∧ ¬ s = t ∧ es.length > 65536)) := by omega
  rcases key with h | h
  · repeat (first | refine F_mv zT0 rfl ?_ | refine F_yes (by rfl) (by rfl) ?_ | refine F_nil zT1 ?_ | refine F_lss (by rfl) (by rfl) zT6 ?_ | refine F_eql (by rfl) (by rfl) (by first | exact eqT (by omega) | exact eqF (by omega) | rfl) ?_ | refine F_pickF (by rfl) zT0 ?_ | refine F_lenS (by rfl) ?_ | refine hx_false (by rfl) ?_ | refine hx_seq ?_ | refine hx_region ?_ | refine hx_block ?_ | refine hx_skip ?_ | refine F_gtr (by rfl) (by rfl) zT6 ?_ | refine F_geq (by rfl) (by rfl) (by first | exact leT (by omega) | exact leF (by omega) | rfl) ?_)
    refine hx_loopG [0, 1, 9] (fun k : Nat => k ≤ es.length ∧ ∀ j, j < k → VEdge n (es.getD j default)) (fun k => ⟨[(0, .int .i64 n), (1, .sl es.length (edges es)), (9, .int .i64 k)], [], 0⟩) (fun k => es.length - k) 0 ⟨by omega, fun j hj => by omega⟩ rfl ?_
    rintro k ⟨hk, hall⟩
    by_cases hkl : k < es.length
    · have hmem : es.getD k default ∈ es := by
        have : es.getD k default = es[k] := by simp [hkl]
        rw [this]; exact List.getElem_mem hkl
      have key2 : (0 ≤ (es.getD k default).f ∧ (es.getD k default).f < n ∧ 0 ≤ (es.getD k default).t ∧ (es.getD k default).t < n ∧ ¬ (es.getD k default).f = (es.getD k default).t ∧ 0 ≤ (es.getD k default).c ∧ (es.getD k default).c ≤ 1099511627776) ∨
        ((es.getD k default).f < 0 ∨ (0 ≤ (es.getD k default).f ∧ n ≤ (es.getD k default).f) ∨ (0 ≤ (es.getD k default).f ∧ (es.getD k default).f < n ∧ (es.getD k default).t < 0) ∨ (0 ≤ (es.getD k default).f ∧ (es.getD k default).f < n ∧ 0 ≤ (es.getD k default).t ∧ n ≤ (es.getD k default).t) ∨
          (0 ≤ (es.getD k default).f ∧ (es.getD k default).f < n ∧ 0 ≤ (es.getD k default).t ∧ (es.getD k default).t < n ∧ (es.getD k default).f = (es.getD k default).t) ∨
          (0 ≤ (es.getD k default).f ∧ (es.getD k default).f < n ∧ 0 ≤ (es.getD k default).t ∧ (es.getD k default).t < n ∧ ¬ (es.getD k default).f = (es.getD k default).t ∧ (es.getD k default).c < 0) ∨
          (0 ≤ (es.getD k default).f ∧ (es.getD k default).f < n ∧ 0 ≤ (es.getD k default).t ∧ (es.getD k default).t < n ∧ ¬ (es.getD k default).f = (es.getD k default).t ∧ 0 ≤ (es.getD k default).c ∧ 1099511627776 < (es.getD k default).c)) := by omega
      rcases key2 with h2 | h2
      · repeat (first | refine F_mv zT0 rfl ?_ | refine F_yes (by rfl) (by rfl) ?_ | refine F_iaS (by rfl) (by rfl) (by omega) zT1 ?_ | refine F_ldR (by rfl) (by first | exact eO rfl | exact eW rfl) (by (try simp only [go_sem]); try rfl) (by (try simp only [go_sem]); first | omega | decide) (by (try simp (disch := omega) only [go_sem]); try rfl) zT0 ?_ | refine F_nil zT1 ?_ | refine F_lss (by rfl) (by rfl) zT6 ?_ | refine F_eql (by rfl) (by rfl) (by first | exact eqT (by omega) | exact eqF (by omega) | rfl) ?_ | refine F_pickF (by rfl) zT0 ?_ | refine F_add (by rfl) (by rfl) zT11 ?_ | refine F_lenS (by rfl) ?_ | refine hx_true (by rfl) ?_ | refine hx_false (by rfl) ?_ | refine hx_seq ?_ | refine hx_region ?_ | refine hx_block ?_ | refine hx_b ?_ | refine hx_skip ?_ | refine F_gtr (by rfl) (by rfl) zT6 ?_ | refine F_geq (by rfl) (by rfl) (by first | exact leT (by omega) | exact leF (by omega) | rfl) ?_ | refine F_faR (by rfl) (by rfl) ?_ | refine F_ldPa (by rfl) (by (try simp only [go_sem]); first | omega | decide) (by (try simp (disch := omega) only [go_sem, reduceIte, Nat.reduceEqDiff, Nat.reduceAdd, Nat.reduceMul]); try rfl) ?_ | refine F_st (by rfl) zT0 (by (try simp only [go_sem]); try rfl) zT10 (by rfl) (by decide) (by first | exact eO rfl | exact eW rfl) (by (try simp only [go_sem]); try rfl) (by (try simp only [go_sem]); first | omega | decide) (by (try simp (disch := omega) only [go_sem]); try rfl) (by (try simp only [go_sem]); try rfl) ?_ | refine F_newz zT1 ?_)
        exact hx_lG [0, 1, 9] (k + 1) ⟨hkl, fun j hj => by
          rcases Nat.lt_or_ge j k with h3 | h3
          · exact hall j h3
          · obtain rfl : j = k := by omega
            exact h2⟩ (by omega) rfl
      · have hbad : ¬ VNet n s t es := fun hv => by
          obtain ⟨b1, b2, b3, b4, b5, b6, b7⟩ := hv.all _ hmem
          omega
        rcases h2 with h2 | h2 | h2 | h2 | h2 | h2 | h2
        all_goals
          repeat (first | refine F_mv zT0 rfl ?_ | refine F_yes (by rfl) (by rfl) ?_ | refine F_no (by rfl) (by rfl) ?_ | refine F_iaS (by rfl) (by rfl) (by omega) zT1 ?_ | refine F_ldR (by rfl) (by first | exact eO rfl | exact eW rfl) (by (try simp only [go_sem]); try rfl) (by (try simp only [go_sem]); first | omega | decide) (by (try simp (disch := omega) only [go_sem]); try rfl) zT0 ?_ | refine F_nil zT1 ?_ | refine F_lss (by rfl) (by rfl) zT6 ?_ | refine F_eql (by rfl) (by rfl) (by first | exact eqT (by omega) | exact eqF (by omega) | rfl) ?_ | refine F_pickT (by rfl) zT0 ?_ | refine F_pickF (by rfl) zT0 ?_ | refine F_lenS (by rfl) ?_ | refine hx_true (by rfl) ?_ | refine hx_seq ?_ | refine hx_region ?_ | refine hx_block ?_ | refine hx_skip ?_ | refine F_gtr (by rfl) (by rfl) zT6 ?_ | refine F_geq (by rfl) (by rfl) (by first | exact leT (by omega) | exact leF (by omega) | rfl) ?_ | refine F_faR (by rfl) (by rfl) ?_ | refine F_ldPa (by rfl) (by (try simp only [go_sem]); first | omega | decide) (by (try simp (disch := omega) only [go_sem, reduceIte, Nat.reduceEqDiff, Nat.reduceAdd, Nat.reduceMul]); try rfl) ?_ | refine F_st (by rfl) zT0 (by (try simp only [go_sem]); try rfl) zT10 (by rfl) (by decide) (by first | exact eO rfl | exact eW rfl) (by (try simp only [go_sem]); try rfl) (by (try simp only [go_sem]); first | omega | decide) (by (try simp (disch := omega) only [go_sem]); try rfl) (by (try simp only [go_sem]); try rfl) ?_ | refine F_newz zT1 ?_)
          refine hx_retF (by (try simp only [List.map_cons, List.map_nil]); repeat (first | (apply eL1; · exact zT0) | rfl)) zT5 zT7 ?_
          exact ⟨false, rfl, by simp [hbad]⟩
    · obtain rfl : k = es.length := by omega
      have hgood : VNet n s t es := ⟨h.1, h.2.1, h.2.2.1, h.2.2.2.1, h.2.2.2.2.1, h.2.2.2.2.2.1, h.2.2.2.2.2.2.1, h.2.2.2.2.2.2.2, fun e he => by
        obtain ⟨j, hj, rfl⟩ := List.getElem_of_mem he
        have := hall j hj
        simpa [hj] using this⟩
      repeat (first | refine F_mv zT0 rfl ?_ | refine F_nil zT1 ?_ | refine F_lss (by rfl) (by rfl) zT6 ?_ | refine F_lenS (by rfl) ?_ | refine hx_exitS (by rfl) ?_ | refine hx_false (by rfl) ?_ | refine hx_seq ?_ | refine hx_region ?_)
      refine hx_retF (by (try simp only [List.map_cons, List.map_nil]); repeat (first | (apply eL1; · exact zT0) | rfl)) zT5 zT7 ?_
      exact ⟨true, rfl, by simp [hgood]⟩
  · have hbad : ¬ VNet n s t es := fun hv => by have := hv.bounds; omega
    rcases h with h | h | h | h | h | h | h | h
    all_goals
      repeat (first | refine F_mv zT0 rfl ?_ | refine F_yes (by rfl) (by rfl) ?_ | refine F_no (by rfl) (by rfl) ?_ | refine F_nil zT1 ?_ | refine F_lss (by rfl) (by rfl) zT6 ?_ | refine F_eql (by rfl) (by rfl) (by first | exact eqT (by omega) | exact eqF (by omega) | rfl) ?_ | refine F_pickT (by rfl) zT0 ?_ | refine F_pickF (by rfl) zT0 ?_ | refine F_lenS (by rfl) ?_ | refine hx_true (by rfl) ?_ | refine hx_seq ?_ | refine hx_region ?_ | refine F_gtr (by rfl) (by rfl) zT6 ?_ | refine F_geq (by rfl) (by rfl) (by first | exact leT (by omega) | exact leF (by omega) | rfl) ?_)
      refine hx_retF (by (try simp only [List.map_cons, List.map_nil]); repeat (first | (apply eL1; · exact zT0) | rfl)) zT5 zT7 ?_
      exact ⟨false, rfl, by simp [hbad]⟩

end Go.Proofs.Ytkhbiknjkffpjaa
