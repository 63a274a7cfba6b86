/-
  OWN WORK. Bound of package closure, and the reference's Weight, in the value language.
-/
import Derived.Test.YtkhbiknjkffpjaaClMax
import Derived.Test.YtkhbiknjkffpjaaFlChk
set_option linter.unusedSimpArgs false
set_option linter.unusedVariables false
namespace Go.Proofs.Ytkhbiknjkffpjaa
open Go.RowKit Go.SL Go.HL

def BoundR (w : List Int) (nd : List (List Nat)) (fl : List Int) (x y : Int) : Prop :=
  (fl.length ≠ (netE w nd).length ∧ x = 0 ∧ y = 1) ∨ (fl.length = (netE w nd).length ∧ ∃ v e, CheckR (nd.length + 2) nd.length ((nd.length : Int) + 1) (netE w nd) fl v e ∧ (e ≠ 0 ∧ x = 0 ∧ y = e ∨ e = 0 ∧ x = posS w nd.length - v ∧ y = 0))
theorem CheckR.bd {n : Nat} {s t : Int} {es : List Edge} {fl : List Int} {v e : Int} (h : CheckR n s t es fl v e) (hc : ∀ e ∈ es, e.c ≤ 1099511627776) (hl : es.length ≤ 65536) : -72057594037927936 ≤ v ∧ v ≤ 72057594037927936 := by
  rcases h with ⟨_, rfl, _⟩ | ⟨_, _, rfl, _⟩ | ⟨hok, _, rfl, _⟩
  · omega
  · omega
  · have hb := nets_bd n es fl es.length hc (Nat.le_refl _) hok
    by_cases hs : s.toNat < (nets n es fl es.length).length
    · have := hb ((nets n es fl es.length).getD s.toNat 0) (by rw [List.getD_eq_getElem?_getD, List.getElem?_eq_getElem hs, Option.getD_some]; exact List.getElem_mem hs)
      omega
    · rw [List.getD_eq_getElem?_getD, List.getElem?_eq_none (by omega)]; simp

set_option maxHeartbeats 8000000 in
theorem ht_cbound (w : List Int) (nd : List (List Nat)) (bad : List Bool) (fl : List Int) (g : Gr nd bad) (hw : WOK w) (hl : w.length = nd.length) : HT Try.prog 28 [I w, Gs (nd.map nl), I fl] (fun r => ∃ x y, r = .tup [.int .i64 x, .int .i64 y] ∧ BoundR w nd fl x y) := by
  have hsz := g.size
  have hnl : (nd.map nl).length = nd.length := by simp
  have hNl := netE_len g w
  have hN2 : nd.length * nd.length ≤ 256 * 256 := Nat.mul_le_mul hsz hsz
  have hv := netE_okN g hw
  have hnet := ht_cnet w nd bad g hw hl
  simp only [Gs, I] at hnet
  rw [hnl, hl] at hnet
  refine HT.of rfl fc28 (Nat.le_of_ble_eq_true rfl) ?_
  unfold c28
  simp only [Gs, I, argSlots, Nat.reduceAdd]
  rw [hnl, hl]
  repeat (first | refine F_mv zT0 rfl ?_ | refine F_nil zT1 ?_ | refine hx_seq ?_ | refine hx_region ?_)
  refine F_call (by (try simp only [List.map_cons, List.map_nil]); repeat (first | (apply eL1; · exact zT0) | rfl)) zT2 (hnet) ?_
  rintro _ rfl
  refine ⟨zT3, _, _, _, _, _, zT4, (by decide), (by simp only [upF, upS]; try rfl), ?_⟩
  repeat (first | refine F_mv zT0 rfl ?_ | refine F_nil zT1 ?_ | refine F_eql (by rfl) (by rfl) (by first | exact eqT (by omega) | exact eqF (by omega) | rfl) ?_ | refine F_add (by rfl) (by rfl) zT11 ?_ | refine F_ext (by rfl) (by (try simp only [go_sem]); first | omega | decide) zT0 ?_ | refine F_lenS (by rfl) ?_ | refine hx_false (by rfl) ?_ | refine hx_seq ?_ | refine hx_region ?_ | refine hx_skip ?_)
  by_cases hfl : fl.length = (netE w nd).length
  · have hck := ht_check (nd.length + 2) (netE w nd) nd.length (nd.length + 1) fl hv hfl
    simp only [Es, I, Int.natCast_add, Int.cast_ofNat_Int] at hck
    refine F_call (by (try simp only [List.map_cons, List.map_nil]); repeat (first | (apply eL1; · exact zT0) | rfl)) zT2 (hck) ?_
    rintro _ ⟨v, e, rfl, hR⟩
    have hbd := hR.bd (fun e he => (hv.all e he).2.2.2.2.2.2) (by omega)
    have hE : e = 0 ∨ e = 5 ∨ e = 24 := by
      rcases hR with ⟨_, _, h⟩ | ⟨_, _, _, h⟩ | ⟨_, _, _, h⟩ <;> omega
    refine ⟨zT3, _, _, _, _, _, zT4, (by decide), (by simp only [upF, upS]; try rfl), ?_⟩
    by_cases he : e = 0
    · subst he
      repeat (first | refine F_mv zT0 rfl ?_ | refine F_nil zT1 ?_ | refine F_neq (by rfl) (by rfl) (by first | exact neF (by omega) | exact neT (by omega) | rfl) ?_ | refine F_ext (by rfl) (by (try simp only [go_sem]); first | omega | decide) zT0 ?_ | refine F_lenS (by rfl) ?_ | refine hx_false (by rfl) ?_ | refine hx_seq ?_ | refine hx_region ?_ | refine hx_block ?_ | refine hx_skip ?_ | refine F_neg (by rfl) zT11 ?_)
      refine hx_loopG [13, 41, 42, 43] (fun i : Nat => i ≤ nd.length) (fun i => ⟨[(13, .int .i64 (posS w i - v)), (41, .sl nd.length (HL.ints w)), (42, .int .i64 nd.length), (43, .int .i64 i)], [], 0⟩) (fun i => nd.length - i) 0 (by omega) (by simp only [posS]; rfl) ?_
      rintro i hi
      have hp := posS_bd hw i
      by_cases hin : i < nd.length
      · have hwi := hw i
        obtain ⟨x, hx⟩ : ∃ x, w.getD i 0 = x := ⟨_, rfl⟩
        have hnx : posS w (i + 1) = posS w i + max 0 x := by rw [← hx]; rfl
        rw [hx] at hwi
        by_cases h0 : 0 < x
        · have hnx2 : posS w i - v + x = posS w (i + 1) - v := by omega
          repeat (first | refine F_mv zT0 rfl ?_ | refine F_iaS (by rfl) (by rfl) (by omega) zT1 ?_ | refine F_ldP (by rfl) (by (try simp only [go_sem]); first | omega | decide) (by (try simp (disch := omega) only [go_sem, hx, hnx2]); try rfl) ?_ | refine F_nil zT1 ?_ | refine F_lss (by rfl) (by rfl) zT6 ?_ | refine F_add (by rfl) (by rfl) (by (try simp (disch := omega) only [go_sem, Int.reduceAdd, Int.reduceSub, Int.reduceMul, hx, hnx2]); try rfl) ?_ | refine hx_true (by rfl) ?_ | refine hx_seq ?_ | refine hx_region ?_ | refine hx_block ?_ | refine hx_b ?_ | refine hx_skip ?_ | refine F_mm (by rfl) (by rfl) (by (try simp only [go_sem, reduceIte, hx, hnx2]); try rfl) ?_)
          exact hx_lG [13, 41, 42, 43] (i + 1) hin (by omega) (by rw [if_pos h0, hnx2]; rfl)
        · have hnx2 : posS w i - v = posS w (i + 1) - v := by omega
          repeat (first | refine F_mv zT0 rfl ?_ | refine F_iaS (by rfl) (by rfl) (by omega) zT1 ?_ | refine F_ldP (by rfl) (by (try simp only [go_sem]); first | omega | decide) (by (try simp (disch := omega) only [go_sem, hx]); try rfl) ?_ | refine F_nil zT1 ?_ | refine F_lss (by rfl) (by rfl) zT6 ?_ | refine F_add (by rfl) (by rfl) (by (try simp (disch := omega) only [go_sem, Int.reduceAdd, Int.reduceSub, Int.reduceMul, hx]); try rfl) ?_ | refine hx_true (by rfl) ?_ | refine hx_seq ?_ | refine hx_region ?_ | refine hx_block ?_ | refine hx_b ?_ | refine hx_skip ?_ | refine F_mm (by rfl) (by rfl) (by (try simp only [go_sem, reduceIte, hx]); try rfl) ?_)
          exact hx_lG [13, 41, 42, 43] (i + 1) hin (by omega) (by rw [if_neg h0, Int.add_zero, hnx2]; rfl)
      · obtain rfl : i = nd.length := by omega
        repeat (first | refine F_mv zT0 rfl ?_ | refine F_nil zT1 ?_ | refine F_lss (by rfl) (by rfl) zT6 ?_ | refine hx_exitS (by rfl) ?_ | refine hx_false (by rfl) ?_ | refine hx_seq ?_ | refine hx_region ?_)
        refine hx_retF (by (try simp only [List.map_cons, List.map_nil]); repeat (first | (apply eL1; · exact zT0) | rfl)) zT5 zT7 ?_
        exact ⟨_, _, rfl, .inr ⟨hfl, v, 0, hR, .inr ⟨rfl, rfl, rfl⟩⟩⟩
    · repeat (first | refine F_mv zT0 rfl ?_ | refine F_nil zT1 ?_ | refine F_neq (by rfl) (by rfl) (by first | exact neF (by omega) | exact neT (by omega) | rfl) ?_ | refine F_ext (by rfl) (by (try simp only [go_sem]); first | omega | decide) zT0 ?_ | refine hx_true (by rfl) ?_ | refine hx_seq ?_ | refine hx_region ?_)
      refine hx_retF (by (try simp only [List.map_cons, List.map_nil]); repeat (first | (apply eL1; · exact zT0) | rfl)) zT5 zT7 ?_
      exact ⟨_, _, rfl, .inr ⟨hfl, v, e, hR, .inl ⟨he, rfl, rfl⟩⟩⟩
  · have hck := ht_check_bad ((nd.length : Int) + 2) nd.length ((nd.length : Int) + 1) (netE w nd) fl (by omega) (.inr hfl)
    simp only [Es, I] at hck
    refine F_call (by (try simp only [List.map_cons, List.map_nil]); repeat (first | (apply eL1; · exact zT0) | rfl)) zT2 (hck) ?_
    rintro _ rfl
    refine ⟨zT3, _, _, _, _, _, zT4, (by decide), (by simp only [upF, upS]; try rfl), ?_⟩
    repeat (first | refine F_mv zT0 rfl ?_ | refine F_nil zT1 ?_ | refine F_neq (by rfl) (by rfl) (by first | exact neF (by omega) | exact neT (by omega) | rfl) ?_ | refine F_ext (by rfl) (by (try simp only [go_sem]); first | omega | decide) zT0 ?_ | refine hx_true (by rfl) ?_ | refine hx_seq ?_ | refine hx_region ?_)
    refine hx_retF (by (try simp only [List.map_cons, List.map_nil]); repeat (first | (apply eL1; · exact zT0) | rfl)) zT5 zT7 ?_
    exact ⟨_, _, rfl, .inl ⟨hfl, rfl, rfl⟩⟩

end Go.Proofs.Ytkhbiknjkffpjaa
