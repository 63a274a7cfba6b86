/-
  OWN WORK. Max of package closure in the value language.
-/
import Derived.Test.YtkhbiknjkffpjaaClNet
import Derived.Test.YtkhbiknjkffpjaaClMaxP
import Derived.Test.YtkhbiknjkffpjaaFlHt
set_option linter.unusedSimpArgs false
set_option linter.unusedVariables false
namespace Go.Proofs.Ytkhbiknjkffpjaa
open Go.RowKit Go.SL Go.HL

theorem wS_take (w : List Int) (set : List Bool) (n : Nat) : ∀ k, k ≤ n → wS w (set.take n) k = wS w set k
  | 0, _ => rfl
  | k + 1, h => by
    have ih := wS_take w set n k (by omega)
    simp only [wS, ih]
    rw [List.getD_eq_getElem?_getD, List.getElem?_take_of_lt (by omega), ← List.getD_eq_getElem?_getD]
theorem wS_bd {w : List Int} (hw : WOK w) (X : List Bool) : ∀ k : Nat, -((k : Int) * 2147483648) ≤ wS w X k ∧ wS w X k ≤ (k : Int) * 2147483648
  | 0 => by simp [wS]
  | k + 1 => by
    have ih := wS_bd hw X k
    have := hw k
    simp only [wS]
    split <;> omega
theorem netE_okN {w : List Int} {nd : List (List Nat)} {bad : List Bool} (g : Gr nd bad) (hw : WOK w) : VNet ((nd.length + 2 : Nat) : Int) (nd.length : Nat) ((nd.length + 1 : Nat) : Int) (netE w nd) := netE_ok g hw
/-- What Max returns. -/
def CMaxV (w : List Int) (nd : List (List Nat)) (r : HV) : Prop := ∃ fl set value, r = .tup [.osl 1 nd.length (HL.bools (set.take nd.length)), .int .i64 (wS w (set.take nd.length) nd.length), .osl 1 (netE w nd).length (HL.ints fl), .int .i64 0] ∧
  MaxSet w nd (set.take nd.length) ∧ Found ((nd.length : Int) + 2) nd.length ((nd.length : Int) + 1) (netE w nd) fl set value ∧ value = posS w nd.length - wS w (set.take nd.length) nd.length

set_option maxHeartbeats 8000000 in
theorem ht_cmax (w : List Int) (nd : List (List Nat)) (bad : List Bool) (g : Gr nd bad) (hw : WOK w) (hl : w.length = nd.length) : HT Try.prog 25 [I w, Gs (nd.map nl)] (CMaxV w nd) := by
  have hsz := g.size
  have hnl : (nd.map nl).length = nd.length := by simp
  have hNl := netE_len g w
  have hN2 : nd.length * nd.length ≤ 256 * 256 := Nat.mul_le_mul hsz hsz
  have hv := netE_okN g hw
  have hnet := ht_cnet w nd bad g hw hl
  have hmx := ht_max (nd.length + 2) nd.length (nd.length + 1) (netE w nd) hv
  have hct := ht_cut (nd.length + 2) nd.length (nd.length + 1) (netE w nd) hv
  simp only [Gs, I] at hnet
  rw [hnl, hl] at hnet
  simp only [Es, Int.natCast_add, Int.cast_ofNat_Int] at hmx hct
  refine HT.of rfl fc25 (Nat.le_of_ble_eq_true rfl) ?_
  unfold c25
  simp only [Gs, I, argSlots, Nat.reduceAdd]
  unfold CMaxV
  rw [hnl, hl]
  repeat (first | refine F_mv zT0 rfl ?_ | refine F_nil zT1 ?_ | refine hx_seq ?_ | refine hx_region ?_ | refine F_mvnil rfl (by rfl) zT1 ?_)
  refine F_call (by (try simp only [List.map_cons, List.map_nil]); repeat (first | (apply eL1; · exact zT0) | rfl)) zT2 (hnet) ?_
  rintro _ rfl
  refine ⟨zT3, _, _, _, _, _, zT4, (by decide), (by simp only [upF, upS]; try rfl), ?_⟩
  repeat (first | refine F_mv zT0 rfl ?_ | refine F_nil zT1 ?_ | refine F_eql (by rfl) (by rfl) (by first | exact eqT (by omega) | exact eqF (by omega) | rfl) ?_ | refine F_add (by rfl) (by rfl) zT11 ?_ | refine F_ext (by rfl) (by (try simp only [go_sem]); first | omega | decide) zT0 ?_ | refine F_lenS (by rfl) ?_ | refine hx_false (by rfl) ?_ | refine hx_seq ?_ | refine hx_region ?_ | refine hx_skip ?_)
  refine F_call (by (try simp only [List.map_cons, List.map_nil]); repeat (first | (apply eL1; · exact zT0) | rfl)) zT2 (hmx) ?_
  rintro _ ⟨fl, set1, v1, rfl, hF1⟩
  refine ⟨zT3, _, _, _, _, _, zT4, (by decide), (by simp only [upF, upS]; try rfl), ?_⟩
  repeat (first | refine F_mv zT0 rfl ?_ | refine F_nil zT1 ?_ | refine F_neq (by rfl) (by rfl) (by first | exact neF (by omega) | exact neT (by omega) | rfl) ?_ | refine F_add (by rfl) (by rfl) zT11 ?_ | refine F_ext (by rfl) (by (try simp only [go_sem]); first | omega | decide) zT0 ?_ | refine hx_false (by rfl) ?_ | refine hx_seq ?_ | refine hx_region ?_ | refine hx_skip ?_)
  refine F_call (by (try simp only [List.map_cons, List.map_nil]); repeat (first | (apply eL1; · exact zT0) | rfl)) zT2 (hct) ?_
  rintro _ ⟨fl2, set, v, rfl, hF⟩
  refine ⟨zT3, _, _, _, _, _, zT4, (by decide), (by simp only [upF, upS]; try rfl), ?_⟩
  have hv1 := hF1.val_eq hv hF
  have hs1 := hF1.set_eq hv hF
  subst hv1 hs1
  have hsl := hF1.cut.len
  have hsl2 : set1.length = nd.length + 2 := by omega
  obtain ⟨hM, hval⟩ := found_max (w := w) g hw (fl := fl) (set := set1) (value := v1) hF1
  repeat (first | refine F_mv zT0 rfl ?_ | refine F_nil zT1 ?_ | refine F_neq (by rfl) (by rfl) (by first | exact neF (by omega) | exact neT (by omega) | rfl) ?_ | refine F_ext (by rfl) (by (try simp only [go_sem]); first | omega | decide) zT0 ?_ | refine F_lenS (by rfl) ?_ | refine hx_false (by rfl) ?_ | refine hx_seq ?_ | refine hx_region ?_ | refine hx_block ?_ | refine hx_skip ?_)
  refine hx_loopG [10, 12, 14, 15, 53, 54, 55] (fun i : Nat => i ≤ nd.length)
    (fun i => ⟨[(10, .int .i64 nd.length), (12, .ref 0 [] 1 0 (netE w nd).length), (14, .ref 1 [] 1 0 (nd.length + 2)), (15, .int .i64 (wS w set1 i)), (53, .sl nd.length (HL.ints w)), (54, .int .i64 nd.length), (55, .int .i64 i)], [(0, .osl 1 (netE w nd).length (HL.ints fl)), (1, .osl 1 (nd.length + 2) (HL.bools set1))], 2⟩)
    (fun i => nd.length - i) 0 (by omega) rfl ?_
  rintro i hi
  have hbd := wS_bd hw set1 i
  by_cases hin : i < nd.length
  · have hwi := hw i
    have hnx : wS w set1 (i + 1) = wS w set1 i + if set1.getD i false then w.getD i 0 else 0 := rfl
    obtain ⟨x, hx⟩ : ∃ x, w.getD i 0 = x := ⟨_, rfl⟩
    rw [hx] at hwi hnx
    cases hb : set1.getD i false with
    | true =>
      rw [hb, if_pos rfl] at hnx
      repeat (first | refine F_mv zT0 rfl ?_ | refine F_iaS (by rfl) (by rfl) (by omega) zT1 ?_ | refine F_iaR (by rfl) (by rfl) (by omega) zT1 ?_ | refine F_ldP (by rfl) (by (try simp only [go_sem]); first | omega | decide) (by (try simp (disch := omega) only [go_sem, hb, hx, hnx]); try rfl) ?_ | refine F_ldR (by rfl) (by first | exact eO rfl | exact eW rfl) (by (try simp (disch := omega) only [go_sem, reduceIte, Nat.reduceEqDiff, Nat.reduceAdd, Nat.reduceMul, hb, hx, hnx]); try rfl) (by (try simp only [go_sem]); first | omega | decide) (by (try simp (disch := omega) only [go_sem, hb, hx, hnx]); try rfl) zT0 ?_ | refine F_nil zT1 ?_ | refine F_lss (by rfl) (by rfl) zT6 ?_ | refine F_add (by rfl) (by rfl) (by (try simp (disch := omega) only [go_sem, Int.reduceAdd, Int.reduceSub, Int.reduceMul, hb, hx, hnx]); try rfl) ?_ | refine hx_true (by rfl) ?_ | refine hx_seq ?_ | refine hx_region ?_ | refine hx_block ?_ | refine hx_b ?_ | refine hx_skip ?_)
      exact hx_lG [10, 12, 14, 15, 53, 54, 55] (i + 1) hin (by omega) (by rw [hnx]; rfl)
    | false =>
      rw [hb, if_neg (by decide), Int.add_zero] at hnx
      repeat (first | refine F_mv zT0 rfl ?_ | refine F_iaS (by rfl) (by rfl) (by omega) zT1 ?_ | refine F_iaR (by rfl) (by rfl) (by omega) zT1 ?_ | refine F_ldP (by rfl) (by (try simp only [go_sem]); first | omega | decide) (by (try simp (disch := omega) only [go_sem, hb, hx, hnx]); try rfl) ?_ | refine F_ldR (by rfl) (by first | exact eO rfl | exact eW rfl) (by (try simp (disch := omega) only [go_sem, reduceIte, Nat.reduceEqDiff, Nat.reduceAdd, Nat.reduceMul, hb, hx, hnx]); try rfl) (by (try simp only [go_sem]); first | omega | decide) (by (try simp (disch := omega) only [go_sem, hb, hx, hnx]); try rfl) zT0 ?_ | refine F_nil zT1 ?_ | refine F_lss (by rfl) (by rfl) zT6 ?_ | refine F_add (by rfl) (by rfl) (by (try simp (disch := omega) only [go_sem, Int.reduceAdd, Int.reduceSub, Int.reduceMul, hb, hx, hnx]); try rfl) ?_ | refine hx_true (by rfl) ?_ | refine hx_false (by rfl) ?_ | refine hx_seq ?_ | refine hx_region ?_ | refine hx_block ?_ | refine hx_b ?_ | refine hx_skip ?_)
      exact hx_lG [10, 12, 14, 15, 53, 54, 55] (i + 1) hin (by omega) (by rw [hnx]; rfl)
  · obtain rfl : i = nd.length := by omega
    have htk : (HL.bools set1).take (nd.length * 1) = HL.bools (set1.take nd.length) := by simp [HL.bools, List.map_take]
    repeat (first | refine F_mv zT0 rfl ?_ | refine F_nil zT1 ?_ | refine F_lss (by rfl) (by rfl) zT6 ?_ | refine hx_exitS (by rfl) ?_ | refine hx_false (by rfl) ?_ | refine hx_seq ?_ | refine hx_region ?_ | refine F_slcR (by rfl) (by rfl) (by rfl) (by omega) (by (try simp only [go_sem]); try rfl) zT1 ?_)
    refine hx_shrinkG 4 [4, 5, 6, 7] (⟨[(4, .ref 0 [] 1 0 nd.length), (5, .int .i64 (wS w set1 nd.length)), (6, .ref 1 [] 1 0 (netE w nd).length), (7, .int .i64 0)], [(0, .osl 1 nd.length (HL.bools (set1.take nd.length))), (1, .osl 1 (netE w nd).length (HL.ints fl))], 2⟩ : St) rfl rfl (by omega) (HL.bools_flat _) (by decide) (by rw [htk]; rfl) ?_
    refine hx_retF (by (try simp only [List.map_cons, List.map_nil]); repeat (first | (apply eL1; · exact zT0) | rfl)) zT5 zT7 ?_
    exact ⟨fl, set1, v1, by rw [wS_take w set1 _ _ (Nat.le_refl _)]; rfl, hM, hF1, hval⟩

end Go.Proofs.Ytkhbiknjkffpjaa
