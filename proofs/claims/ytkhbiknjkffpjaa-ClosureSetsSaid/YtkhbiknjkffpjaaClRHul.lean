/-
  OWN WORK. The reference's Hull in the value language.
-/
import Derived.Test.YtkhbiknjkffpjaaClHulP
set_option linter.unusedSimpArgs false
set_option linter.unusedVariables false
namespace Go.Proofs.Ytkhbiknjkffpjaa
open Go.RowKit Go.SL Go.HL

theorem unm_sub : ∀ (a b : List Bool), a.length = b.length → Sub a b → unm b ≤ unm a ∧ ((∃ j : Nat, a.getD j false = false ∧ b.getD j false = true) → unm b < unm a)
  | [], [], _, _ => ⟨Nat.le_refl _, fun ⟨j, _, h⟩ => by simp at h⟩
  | x :: a, y :: b, hl, hs => by
    have hs' : Sub a b := fun u hu => by have := hs (u + 1); simp only [List.getD_cons_succ] at this; exact this hu
    have h0 : x = true → y = true := fun h => by have := hs 0; simp only [List.getD_cons_zero] at this; exact this h
    obtain ⟨i1, i2⟩ := unm_sub a b (by simpa using hl) hs'
    have e : ∀ (z : Bool) (l : List Bool), unm (z :: l) = unm l + if z then 0 else 1 := fun z l => by cases z <;> simp [unm]
    rw [e, e]
    refine ⟨?_, fun ⟨j, h1, h2⟩ => ?_⟩
    · cases x <;> cases y <;> simp_all <;> omega
    · cases j with
      | zero =>
        simp only [List.getD_cons_zero] at h1 h2
        subst h1 h2
        simp; omega
      | succ j =>
        simp only [List.getD_cons_succ] at h1 h2
        have := i2 ⟨j, h1, h2⟩
        cases x <;> cases y <;> simp_all <;> omega
theorem unm_zero {a : List Bool} (h : unm a = 0) : ∀ j, j < a.length → a.getD j false = true := by
  intro j hj
  cases hb : a.getD j false with
  | true => rfl
  | false =>
    have := unm_set a j hj hb
    omega
theorem set_self (l : List Bool) (j : Nat) (hj : j < l.length) : l.set j (l.getD j false) = l := by
  apply List.ext_getElem
  · simp
  · intro i h1 h2
    rw [List.getElem_set]
    split
    · rename_i h; subst h; simp [hj]
    · rfl

set_option maxHeartbeats 8000000 in
theorem ht_rhull (g : List (List Int)) (set : List Bool) (h1 : g.length ≤ 300) (h2 : set.length ≤ 9223372036854775807) (h3 : ∀ i, (g.getD i []).length ≤ 9223372036854775807) :
    HT Try.prog 19 [Gs g, Bl set] (fun r => ∃ out, r = .osl 1 out.length (HL.bools out) ∧ (fitsB g set = false ∧ out = [] ∨ fitsB g set = true ∧ IsHull g set out)) := by
  refine HT.of rfl fc19 (Nat.le_of_ble_eq_true rfl) ?_
  unfold c19
  simp only [Gs, Bl, argSlots, Nat.reduceAdd]
  repeat (first | refine F_mv zT0 rfl ?_ | refine F_nil zT1 ?_ | refine hx_seq ?_ | refine hx_region ?_ | refine F_mvnil rfl (by rfl) zT1 ?_)
  refine F_call (by (try simp only [List.map_cons, List.map_nil]); repeat (first | (apply eL1; · exact zT0) | rfl)) (by simp (disch := omega) only [thawL, Gs, HV.thaw, allIds, aget, nget, if_true, if_false, reduceIte, Nat.reduceEqDiff, stripL, HV.strip, win_intsE, win_boolsE, win_edgesE, Nat.mul_one, List.cons_append, List.nil_append, List.append_nil, I, Bl, T3, Es, List.getD_cons_zero, List.getD_cons_succ, HL.ints_strip, HL.bools_strip, trip_strip, edges_strip]; try rfl) (ht_rfits g set (by omega) h2 h3) ?_
  rintro _ rfl
  refine ⟨zT3, _, _, _, _, _, zT4, (by decide), (by simp only [upF, upS]; try rfl), ?_⟩
  cases hf : fitsB g set with
  | false =>
    repeat (first | refine F_nil zT1 ?_ | refine hx_true (by rfl) ?_ | refine hx_seq ?_ | refine hx_region ?_ | refine F_mvnil rfl (by rfl) zT1 ?_ | refine F_notF (by rfl) ?_)
    refine hx_retF (by (try simp only [List.map_cons, List.map_nil]); repeat (first | (apply eL1; · exact zT0) | rfl)) zT5 zT7 ?_
    exact ⟨[], rfl, .inl ⟨rfl, rfl⟩⟩
  | true =>
    obtain ⟨he, hin⟩ := fits_in hf
    repeat (first | refine F_mv zT0 rfl ?_ | refine F_nil zT1 ?_ | refine hx_false (by rfl) ?_ | refine hx_seq ?_ | refine hx_region ?_ | refine hx_block ?_ | refine hx_skip ?_ | refine F_notT (by rfl) ?_ | refine F_bsl zT1 (by (try simp only [List.map_cons, List.map_nil]); repeat (first | (apply eL1; · exact zT0) | rfl)) (by (try simp only [go_sem]); try rfl) zT10 (by rfl) (by rfl) ?_ | refine F_appR zT1 (by rfl) zT0 zT9 (by (try simp (disch := omega) only [go_sem, reduceIte, Nat.reduceEqDiff, Nat.reduceAdd, Nat.reduceMul]); try omega) (by first | exact eO rfl | exact eW rfl) (by (try simp only [go_sem]); try rfl) zT1 (by omega) (by unfold maxLen; omega) (by (try simp only [go_sem]); first | omega | decide) (by (try simp (disch := omega) only [go_sem, reduceIte, Nat.reduceEqDiff, Nat.reduceAdd, Nat.reduceMul]); try rfl) (by (try simp only [go_sem]); try rfl) ?_)
    refine hx_loopG [0, 1, 5, 6] (fun s : Nat × List Bool => s.1 ≤ set.length ∧ Swp g set s.2 ∧ s.1 + unm s.2 ≤ set.length)
      (fun s => ⟨[(0, .sl g.length (rowsI g)), (1, .sl set.length (HL.bools set)), (5, .ref 0 [] 1 0 set.length), (6, .int .i64 s.1)], [(0, .osl 1 set.length (HL.bools s.2))], 1⟩)
      (fun s => set.length + 1 - s.1) (0, set) ⟨by simp, Swp.init, by have := unm_le set; simp; omega⟩ rfl ?_
    rintro ⟨n, out⟩ ⟨hn, hS, hU⟩
    simp only at hn hS hU ⊢
    have hol := hS.len
    have hfo := fitsB_len hf hol
    by_cases hnl : n < set.length
    · have hcl := ht_rclosed g out (by omega) (by omega) h3
      simp only [Gs, Bl] at hcl
      rw [hol] at hcl
      repeat (first | refine F_mv zT0 rfl ?_ | refine F_yes (by rfl) (by rfl) ?_ | refine F_lss (by rfl) (by rfl) zT6 ?_ | refine F_lenS (by rfl) ?_ | refine hx_seq ?_ | refine hx_region ?_)
      refine F_call (by (try simp only [List.map_cons, List.map_nil]); repeat (first | (apply eL1; · exact zT0) | rfl)) zT2 (hcl) ?_
      rintro _ rfl
      refine ⟨zT3, _, _, _, _, _, zT4, (by decide), (by simp only [upF, upS]; try rfl), ?_⟩
      cases hc : closedB g out with
      | true =>
        repeat (first | refine F_mv zT0 rfl ?_ | refine F_yes (by rfl) (by rfl) ?_ | refine F_nil zT1 ?_ | refine F_pickT (by rfl) zT0 ?_ | refine hx_exitS (by rfl) ?_ | refine hx_false (by rfl) ?_ | refine hx_seq ?_ | refine hx_region ?_ | refine F_notT (by rfl) ?_)
        refine hx_retF (by (try simp only [List.map_cons, List.map_nil]); repeat (first | (apply eL1; · exact zT0) | rfl)) zT5 zT7 ?_
        exact ⟨out, by rw [hol]; rfl, .inr ⟨trivial, hS.hull ((closedB_iff hfo).1 hc)⟩⟩
      | false =>
        have hnc : ¬ ClosedX g out := fun h => by rw [(closedB_iff hfo).2 h] at hc; cases hc
        repeat (first | refine F_mv zT0 rfl ?_ | refine F_yes (by rfl) (by rfl) ?_ | refine F_nil zT1 ?_ | refine F_pickT (by rfl) zT0 ?_ | refine hx_true (by rfl) ?_ | refine hx_seq ?_ | refine hx_region ?_ | refine hx_block ?_ | refine hx_skip ?_ | refine F_notF (by rfl) ?_)
        refine hx_loopG [0, 1, 5, 6, 7] (fun s : Nat × List Bool => s.1 ≤ g.length ∧ Swp g set s.2 ∧ Sub out s.2 ∧ ∀ u, u < s.1 → out.getD u false = true → ∀ j ∈ g.getD u [], s.2.getD j.toNat false = true)
          (fun s => ⟨[(0, .sl g.length (rowsI g)), (1, .sl set.length (HL.bools set)), (5, .ref 0 [] 1 0 set.length), (6, .int .i64 n), (7, .int .i64 s.1)], [(0, .osl 1 set.length (HL.bools s.2))], 1⟩)
          (fun s => g.length - s.1) (0, out) ⟨by simp, hS, fun u h => h, fun u hu => absurd hu (Nat.not_lt_zero _)⟩ rfl ?_
        rintro ⟨i, p⟩ ⟨hi, hSp, hsub, hdone⟩
        simp only at hi hSp hsub hdone ⊢
        have hpl := hSp.len
        by_cases hil : i < g.length
        · obtain ⟨row, hrow⟩ : ∃ row, g.getD i [] = row := ⟨_, rfl⟩
          have hrl := h3 i
          rw [hrow] at hrl
          repeat (first | refine F_mv zT0 rfl ?_ | refine F_nil zT1 ?_ | refine F_lss (by rfl) (by rfl) zT6 ?_ | refine F_lenS (by rfl) ?_ | refine hx_true (by rfl) ?_ | refine hx_seq ?_ | refine hx_region ?_ | refine hx_block ?_ | refine hx_skip ?_)
          refine hx_loopG [0, 1, 5, 6, 7, 8] (fun s : Nat × List Bool => s.1 ≤ row.length ∧ Swp g set s.2 ∧ Sub p s.2 ∧ (out.getD i false = true → ∀ k, k < s.1 → s.2.getD (row.getD k 0).toNat false = true))
            (fun s => ⟨[(0, .sl g.length (rowsI g)), (1, .sl set.length (HL.bools set)), (5, .ref 0 [] 1 0 set.length), (6, .int .i64 n), (7, .int .i64 i), (8, .int .i64 s.1)], [(0, .osl 1 set.length (HL.bools s.2))], 1⟩)
            (fun s => row.length - s.1) (0, p) ⟨by simp, hSp, fun u h => h, fun _ k hk => absurd hk (Nat.not_lt_zero _)⟩ rfl ?_
          rintro ⟨k, q⟩ ⟨hk, hSq, hsq, hdq⟩
          simp only at hk hSq hsq hdq ⊢
          have hql := hSq.len
          by_cases hkl : k < row.length
          · obtain ⟨x, hxe⟩ : ∃ x, row.getD k 0 = x := ⟨_, rfl⟩
            have hxm : x ∈ g.getD i [] := by rw [hrow, ← hxe]; exact getD_memI row 0 hkl
            have hxi := hin i x hxm
            obtain ⟨j, rfl⟩ : ∃ j : Nat, x = j := ⟨x.toNat, by omega⟩
            have hjn : j < set.length := by omega
            have hjq : j < q.length := by omega
            have nxt : ∀ q2 : List Bool, Swp g set q2 → Sub q q2 → (out.getD i false = true → q2.getD j false = true) → k + 1 ≤ row.length ∧ Swp g set q2 ∧ Sub p q2 ∧ (out.getD i false = true → ∀ k', k' < k + 1 → q2.getD (row.getD k' 0).toNat false = true) := fun q2 a b c => ⟨hkl, a, fun u hu => b u (hsq u hu), fun ho k' hk' => by
              by_cases e : k' = k
              · subst e; rw [hxe]; simpa using c ho
              · exact b _ (hdq ho k' (by omega))⟩
            cases hqj : q.getD j false with
            | true =>
              have hself : q.set j true = q := by rw [← hqj]; exact set_self q j hjq
              repeat (first | refine F_mv zT0 rfl ?_ | refine F_iaS (by rfl) (by rfl) (by omega) zT1 ?_ | refine F_ldP (by rfl) (by (try simp only [go_sem]); first | omega | decide) (by (try simp (disch := omega) only [go_sem, hrow, hxe]); try rfl) ?_ | refine F_nil zT1 ?_ | refine F_lss (by rfl) (by rfl) zT6 ?_ | refine F_lenS (by rfl) ?_ | refine hx_true (by rfl) ?_ | refine hx_seq ?_ | refine hx_region ?_ | refine hx_block ?_ | refine hx_skip ?_)
              refine hx_draw (by kernel_rfl) (by kernel_rfl) (fun _ _ _ => False) ?_
              repeat (first | refine F_mv zT0 rfl ?_ | refine F_no (by rfl) (by rfl) ?_ | refine F_iaS (by rfl) (by rfl) (by omega) zT1 ?_ | refine F_iaR (by rfl) (by rfl) (by omega) zT1 ?_ | refine F_ldP (by rfl) (by (try simp only [go_sem]); first | omega | decide) (by (try simp (disch := omega) only [go_sem, hrow, hxe, hqj, hself]); try rfl) ?_ | refine F_ldR (by rfl) (by first | exact eO rfl | exact eW rfl) (by (try simp (disch := omega) only [go_sem, reduceIte, Nat.reduceEqDiff, Nat.reduceAdd, Nat.reduceMul, hrow, hxe, hqj, hself]); try rfl) (by (try simp only [go_sem]); first | omega | decide) (by (try simp (disch := omega) only [go_sem, hrow, hxe, hqj, hself]); try rfl) zT0 ?_ | refine F_nil zT1 ?_ | refine F_pickT (by rfl) zT0 ?_ | refine F_add (by rfl) (by rfl) (by (try simp (disch := omega) only [go_sem, Int.reduceAdd, Int.reduceSub, Int.reduceMul, hrow, hxe, hqj, hself]); try rfl) ?_ | refine hx_region ?_ | refine hx_b ?_ | refine F_st (by rfl) zT0 (by (try simp only [go_sem]); try rfl) zT10 (by rfl) (by decide) (by first | exact eO rfl | exact eW rfl) (by (try simp only [go_sem]); try rfl) (by (try simp only [go_sem]); first | omega | decide) (by (try simp (disch := omega) only [go_sem, hrow, hxe, hqj, hself]); try rfl) (by (try simp only [go_sem]); try rfl) ?_)
              exact hx_lG [0, 1, 5, 6, 7, 8] (k + 1, q) (nxt q hSq (fun u h => h) (fun _ => hqj)) (by simp only; omega) rfl
            | false =>
              cases hqi : q.getD i false with
              | true =>
                have hmk := hSq.mark (i := i) (j := j) hxm hqi hjn
                repeat (first | refine F_mv zT0 rfl ?_ | refine F_iaS (by rfl) (by rfl) (by omega) zT1 ?_ | refine F_ldP (by rfl) (by (try simp only [go_sem]); first | omega | decide) (by (try simp (disch := omega) only [go_sem, hrow, hxe]); try rfl) ?_ | refine F_nil zT1 ?_ | refine F_lss (by rfl) (by rfl) zT6 ?_ | refine F_lenS (by rfl) ?_ | refine hx_true (by rfl) ?_ | refine hx_seq ?_ | refine hx_region ?_ | refine hx_block ?_ | refine hx_skip ?_)
                refine hx_draw (by kernel_rfl) (by kernel_rfl) (fun _ _ _ => False) ?_
                repeat (first | refine F_mv zT0 rfl ?_ | refine F_yes (by rfl) (by rfl) ?_ | refine F_iaS (by rfl) (by rfl) (by omega) zT1 ?_ | refine F_iaR (by rfl) (by rfl) (by omega) zT1 ?_ | refine F_ldP (by rfl) (by (try simp only [go_sem]); first | omega | decide) (by (try simp (disch := omega) only [go_sem, hrow, hxe, hqj, hqi]); try rfl) ?_ | refine F_ldR (by rfl) (by first | exact eO rfl | exact eW rfl) (by (try simp (disch := omega) only [go_sem, reduceIte, Nat.reduceEqDiff, Nat.reduceAdd, Nat.reduceMul, hrow, hxe, hqj, hqi]); try rfl) (by (try simp only [go_sem]); first | omega | decide) (by (try simp (disch := omega) only [go_sem, hrow, hxe, hqj, hqi]); try rfl) zT0 ?_ | refine F_nil zT1 ?_ | refine F_pickF (by rfl) zT0 ?_ | refine F_add (by rfl) (by rfl) (by (try simp (disch := omega) only [go_sem, Int.reduceAdd, Int.reduceSub, Int.reduceMul, hrow, hxe, hqj, hqi]); try rfl) ?_ | refine hx_region ?_ | refine hx_b ?_ | refine F_st (by rfl) zT0 (by (try simp only [go_sem]); try rfl) zT10 (by rfl) (by decide) (by first | exact eO rfl | exact eW rfl) (by (try simp only [go_sem]); try rfl) (by (try simp only [go_sem]); first | omega | decide) (by (try simp (disch := omega) only [go_sem, hrow, hxe, hqj, hqi]); try rfl) (by (try simp only [go_sem]); try rfl) ?_)
                exact hx_lG [0, 1, 5, 6, 7, 8] (k + 1, q.set j true) (nxt _ hmk (fun u hu => by rw [getD_setT q j u hjq]; split; rfl; exact hu) (fun _ => by rw [getD_setT q j j hjq]; simp)) (by simp only; omega) rfl
              | false =>
                have hself : q.set j false = q := by rw [← hqj]; exact set_self q j hjq
                have hno : ¬ out.getD i false = true := fun h => by have := hsq i (hsub i h); rw [hqi] at this; cases this
                repeat (first | refine F_mv zT0 rfl ?_ | refine F_iaS (by rfl) (by rfl) (by omega) zT1 ?_ | refine F_ldP (by rfl) (by (try simp only [go_sem]); first | omega | decide) (by (try simp (disch := omega) only [go_sem, hrow, hxe]); try rfl) ?_ | refine F_nil zT1 ?_ | refine F_lss (by rfl) (by rfl) zT6 ?_ | refine F_lenS (by rfl) ?_ | refine hx_true (by rfl) ?_ | refine hx_seq ?_ | refine hx_region ?_ | refine hx_block ?_ | refine hx_skip ?_)
                refine hx_draw (by kernel_rfl) (by kernel_rfl) (fun _ _ _ => False) ?_
                repeat (first | refine F_mv zT0 rfl ?_ | refine F_yes (by rfl) (by rfl) ?_ | refine F_iaS (by rfl) (by rfl) (by omega) zT1 ?_ | refine F_iaR (by rfl) (by rfl) (by omega) zT1 ?_ | refine F_ldP (by rfl) (by (try simp only [go_sem]); first | omega | decide) (by (try simp (disch := omega) only [go_sem, hrow, hxe, hqj, hqi, hself]); try rfl) ?_ | refine F_ldR (by rfl) (by first | exact eO rfl | exact eW rfl) (by (try simp (disch := omega) only [go_sem, reduceIte, Nat.reduceEqDiff, Nat.reduceAdd, Nat.reduceMul, hrow, hxe, hqj, hqi, hself]); try rfl) (by (try simp only [go_sem]); first | omega | decide) (by (try simp (disch := omega) only [go_sem, hrow, hxe, hqj, hqi, hself]); try rfl) zT0 ?_ | refine F_nil zT1 ?_ | refine F_pickF (by rfl) zT0 ?_ | refine F_add (by rfl) (by rfl) (by (try simp (disch := omega) only [go_sem, Int.reduceAdd, Int.reduceSub, Int.reduceMul, hrow, hxe, hqj, hqi, hself]); try rfl) ?_ | refine hx_region ?_ | refine hx_b ?_ | refine F_st (by rfl) zT0 (by (try simp only [go_sem]); try rfl) zT10 (by rfl) (by decide) (by first | exact eO rfl | exact eW rfl) (by (try simp only [go_sem]); try rfl) (by (try simp only [go_sem]); first | omega | decide) (by (try simp (disch := omega) only [go_sem, hrow, hxe, hqj, hqi, hself]); try rfl) (by (try simp only [go_sem]); try rfl) ?_)
                exact hx_lG [0, 1, 5, 6, 7, 8] (k + 1, q) (nxt q hSq (fun u h => h) (fun h => absurd h hno)) (by simp only; omega) rfl
          · obtain rfl : k = row.length := by omega
            repeat (first | refine F_mv zT0 rfl ?_ | refine F_iaS (by rfl) (by rfl) (by omega) zT1 ?_ | refine F_ldP (by rfl) (by (try simp only [go_sem]); first | omega | decide) (by (try simp (disch := omega) only [go_sem, hrow]); try rfl) ?_ | refine F_nil zT1 ?_ | refine F_lss (by rfl) (by rfl) zT6 ?_ | refine F_add (by rfl) (by rfl) (by (try simp (disch := omega) only [go_sem, Int.reduceAdd, Int.reduceSub, Int.reduceMul, hrow]); try rfl) ?_ | refine F_lenS (by rfl) ?_ | refine hx_exitS (by rfl) ?_ | refine hx_false (by rfl) ?_ | refine hx_seq ?_ | refine hx_region ?_ | refine hx_b ?_)
            exact hx_lG [0, 1, 5, 6, 7] (i + 1, q) ⟨hil, hSq, fun u hu => hsq u (hsub u hu), fun u hu ho jj hjj => by
              by_cases e : u = i
              · subst e
                rw [hrow] at hjj
                obtain ⟨k, hk2, rfl⟩ := List.getElem_of_mem hjj
                have := hdq ho k hk2
                rwa [show row.getD k 0 = row[k] by rw [List.getD_eq_getElem?_getD, List.getElem?_eq_getElem hk2, Option.getD_some]] at this
              · exact hsq _ (hdone u (by omega) ho jj hjj)⟩ (by simp only; omega) rfl
        · obtain rfl : i = g.length := by omega
          have hlt : unm p < unm out := by
            refine (unm_sub out p (by omega) hsub).2 ?_
            apply Classical.byContradiction
            intro hno
            refine hnc fun u hu j hj => ?_
            have hul : u < g.length := by
              apply Classical.byContradiction
              intro hn
              rw [List.getD_eq_getElem?_getD, List.getElem?_eq_none (by omega)] at hu; cases hu
            cases hoj : out.getD j.toNat false with
            | true => rfl
            | false => exact absurd ⟨j.toNat, hoj, hdone u hul hu j hj⟩ hno
          repeat (first | refine F_mv zT0 rfl ?_ | refine F_nil zT1 ?_ | refine F_lss (by rfl) (by rfl) zT6 ?_ | refine F_add (by rfl) (by rfl) zT11 ?_ | refine F_lenS (by rfl) ?_ | refine hx_exitS (by rfl) ?_ | refine hx_false (by rfl) ?_ | refine hx_seq ?_ | refine hx_region ?_ | refine hx_b ?_)
          exact hx_lG [0, 1, 5, 6] (n + 1, p) ⟨hnl, hSp, by simp only; omega⟩ (by simp only; omega) rfl
    · obtain rfl : n = set.length := by omega
      have hall := unm_zero (a := out) (by omega)
      repeat (first | refine F_mv zT0 rfl ?_ | refine F_no (by rfl) (by rfl) ?_ | refine F_nil zT1 ?_ | refine F_lss (by rfl) (by rfl) zT6 ?_ | refine F_pickF (by rfl) zT0 ?_ | refine F_lenS (by rfl) ?_ | refine hx_exitS (by rfl) ?_ | refine hx_false (by rfl) ?_ | refine hx_seq ?_ | refine hx_region ?_)
      refine hx_retF (by (try simp only [List.map_cons, List.map_nil]); repeat (first | (apply eL1; · exact zT0) | rfl)) zT5 zT7 ?_
      exact ⟨out, by rw [hol]; rfl, .inr ⟨trivial, hS.hull fun u _ j hj => hall _ (by have := hin u j hj; omega)⟩⟩

end Go.Proofs.Ytkhbiknjkffpjaa
