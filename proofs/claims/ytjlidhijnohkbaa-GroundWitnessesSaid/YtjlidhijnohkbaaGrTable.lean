/-
  OWN WORK. The program's table in the value language: all distances, and the lengths of the shortest circles.
-/
import Derived.Test.YtjlidhijnohkbaaGrSteps
set_option linter.unusedSimpArgs false
set_option linter.unusedVariables false
namespace Go.Proofs.Ytjlidhijnohkbaa
open Go.RowKit Go.HL

def rowsZ (l : List (List Int)) : List HV := l.map fun r => .osl 1 r.length (HL.ints r)
theorem rowsZ_len (l : List (List Int)) : (rowsZ l).length = l.length := by simp [rowsZ]
theorem rowsZ_get (l : List (List Int)) {i : Nat} (h : i < l.length) : (rowsZ l).getD i .dead = .osl 1 (l.getD i []).length (HL.ints (l.getD i [])) := by simp [rowsZ, h]
theorem rowsZ_win (l : List (List Int)) {n : Nat} (h : n = l.length) : win (rowsZ l) 0 n = rowsZ l := win_all _ (by rw [rowsZ_len]; exact h)
theorem rowsZ_snoc (l : List (List Int)) (x : List Int) {m : Nat} (h : m = x.length) : rowsZ l ++ [.osl 1 m (HL.ints x)] = rowsZ (l ++ [x]) := by subst h; simp [rowsZ]
theorem rowsZ_strip (l : List (List Int)) : stripL (rowsZ l) = rowsI l := by
  induction l with
  | nil => rfl
  | cons a l ih => unfold rowsZ rowsI at ih ⊢; simp only [List.map_cons, stripL, HV.strip, HL.ints_strip, ih]
attribute [go_sem] rowsZ_get rowsZ_len rowsZ_win

/-- An edge that can lie on a circle of nodes that are not bad. -/
def useE (bad : List Bool) (ds : List (List Int)) (u k : Nat) : Prop := bad.getD u false = false ∧ bad.getD k false = false ∧ 0 ≤ (ds.getD k []).getD u 0
/-- The shortest circles, as far as the edges have been looked at. -/
structure Rt (bad : List Bool) (ds : List (List Int)) (n : Nat) (P : Nat → Nat → Prop) (round : List Int) : Prop where
  len : round.length = n
  low : ∀ k, k < n → 0 ≤ round.getD k 0
  from_ : ∀ k, k < n → 0 < round.getD k 0 → ∃ u, P u k ∧ useE bad ds u k ∧ round.getD k 0 = (ds.getD k []).getD u 0 + 1
  least : ∀ k, k < n → ∀ u, P u k → useE bad ds u k → 0 < round.getD k 0 ∧ round.getD k 0 ≤ (ds.getD k []).getD u 0 + 1
section
variable {bad : List Bool} {ds : List (List Int)} {n u k : Nat} {P Q : Nat → Nat → Prop} {round : List Int}
theorem Rt.congr (s : Rt bad ds n P round) (h : ∀ u k, P u k ↔ Q u k) : Rt bad ds n Q round := by
  have : P = Q := by funext u k; exact propext (h u k)
  subst this; exact s
theorem Rt.keep (s : Rt bad ds n P round) (h : useE bad ds u k → 0 < round.getD k 0 ∧ round.getD k 0 ≤ (ds.getD k []).getD u 0 + 1) : Rt bad ds n (fun a b => P a b ∨ (a = u ∧ b = k)) round := by
  refine ⟨s.len, s.low, fun b hb h0 => ?_, fun b hb a hp he => ?_⟩
  · obtain ⟨a, h1, h2⟩ := s.from_ b hb h0; exact ⟨a, .inl h1, h2⟩
  · rcases hp with hp | ⟨rfl, rfl⟩
    · exact s.least b hb a hp he
    · exact h he
theorem Rt.put (s : Rt bad ds n P round) (hk : k < n) (hu : useE bad ds u k) (hr : round.getD k 0 = 0 ∨ (ds.getD k []).getD u 0 + 1 < round.getD k 0) : Rt bad ds n (fun a b => P a b ∨ (a = u ∧ b = k)) (round.set k ((ds.getD k []).getD u 0 + 1)) := by
  have hg : ∀ v, (round.set k ((ds.getD k []).getD u 0 + 1)).getD v 0 = if k = v then (ds.getD k []).getD u 0 + 1 else round.getD v 0 := fun v => getD_set _ _ _ _ _ (by rw [s.len]; exact hk)
  have h0 := hu.2.2
  refine ⟨by simpa using s.len, fun b hb => ?_, fun b hb h => ?_, fun b hb a hp he => ?_⟩
  · rw [hg]; split; omega; exact s.low b hb
  · rw [hg] at h ⊢
    by_cases e : k = b
    · subst e; rw [if_pos rfl]; exact ⟨u, .inr ⟨rfl, rfl⟩, hu, rfl⟩
    · rw [if_neg e] at h ⊢
      obtain ⟨a, h1, h2⟩ := s.from_ b hb h; exact ⟨a, .inl h1, h2⟩
  · rw [hg]
    by_cases e : k = b
    · subst e; rw [if_pos rfl]
      refine ⟨by omega, ?_⟩
      rcases hp with hp | ⟨rfl, _⟩
      · have := s.least k hb a hp he; omega
      · omega
    · rw [if_neg e]
      rcases hp with hp | ⟨_, rfl⟩
      · exact s.least b hb a hp he
      · exact absurd rfl e
end
/-- All of it. -/
structure IsTable (nd : List (List Nat)) (bad : List Bool) (ds : List (List Int)) (round : List Int) : Prop where
  len : ds.length = nd.length
  dist : ∀ i, i < nd.length → IsDist nd bad i (ds.getD i [])
  round_ : Rt bad ds nd.length (fun u k => k ∈ nd.getD u []) round

set_option maxHeartbeats 8000000 in
theorem ht_table (nd : List (List Nat)) (bad : List Bool) (g : Gr nd bad) : HT Try.prog 33 [Gs (nd.map nl), Bl bad] (fun r => ∃ ds round, r = .tup [.osl 1 nd.length (rowsZ ds), .osl 1 nd.length (HL.ints round)] ∧ IsTable nd bad ds round) := by
  have hsz := g.size
  have hbl := g.bads
  have hnl : (nd.map nl).length = nd.length := by simp
  refine HT.of rfl fc33 (Nat.le_of_ble_eq_true rfl) ?_
  unfold c33
  simp only [Gs, Bl, argSlots, Nat.reduceAdd]
  rw [hnl, hbl]
  repeat (first | refine F_mv zT0 rfl ?_ | refine F_nil zT1 ?_ | refine F_lenS (by rfl) ?_ | refine hx_seq ?_ | refine hx_region ?_ | refine hx_block ?_ | refine F_mvnil rfl (by rfl) zT1 ?_)
  refine hx_loopG [0, 1, 6, 14, 15] (fun s : Nat × List (List Int) => s.1 ≤ nd.length ∧ s.2.length = s.1 ∧ ∀ i, i < s.1 → IsDist nd bad i (s.2.getD i []))
    (fun s => ⟨[(0, .sl nd.length (rowsI (nd.map nl))), (1, .sl nd.length (HL.bools bad)), (6, .ref 0 [] 1 0 s.1), (14, .int .i64 nd.length), (15, .int .i64 s.1)], [(0, .osl 1 s.1 (rowsZ s.2))], 1⟩) (fun s => nd.length - s.1) (0, []) ⟨by simp, rfl, by simp⟩ rfl ?_
  rintro ⟨i, ds⟩ ⟨hi, hdl, hd⟩
  simp only at hi hdl hd ⊢
  by_cases hin : i < nd.length
  · repeat (first | refine F_mv zT0 rfl ?_ | refine F_nil zT1 ?_ | refine F_lss (by rfl) (by rfl) zT6 ?_ | refine hx_true (by rfl) ?_ | refine hx_seq ?_ | refine hx_region ?_ | refine hx_block ?_ | refine hx_skip ?_)
    refine F_call (by (try simp only [List.map_cons, List.map_nil]); repeat (first | (apply eL1; · exact zT0) | rfl)) (by simp (disch := omega) only [thawL, Gs, hnl, hbl, HV.thaw, allIds, aget, nget, if_true, if_false, reduceIte, Nat.reduceEqDiff, stripL, HV.strip, win_intsE, win_boolsE, Nat.mul_one, List.cons_append, List.nil_append, List.append_nil, I, Bl, T3, List.getD_cons_zero, List.getD_cons_succ, HL.ints_strip, HL.bools_strip, trip_strip]; try rfl) (ht_steps nd bad g i hin) ?_
    rintro _ ⟨out, rfl, hO⟩
    have hol := hO.len
    have hsn := rowsZ_snoc ds out hol.symm
    refine ⟨(by simp only [refFreeL, HV.refFree, noRdL, HV.noRd, HL.ints_noRd, HL.bools_noRd, trip_noRd, Bool.or_true, Bool.true_or, Bool.or_false, Bool.false_or, Bool.and_true, Bool.true_and, Bool.and_self, List.isEmpty_nil, beq_self_eq_true, List.cons_append, List.nil_append]), _, _, _, _, _, zT4, (by decide), (by simp only [upF, upS]; try rfl), ?_⟩
    repeat (first | refine F_mv zT0 rfl ?_ | refine F_nil zT1 ?_ | refine F_add (by rfl) (by rfl) (by (try simp (disch := omega) only [go_sem, Int.reduceAdd, Int.reduceSub, Int.reduceMul, hsn]); try rfl) ?_ | refine hx_region ?_ | refine hx_b ?_ | refine F_bslG zT1 (by (try simp only [List.map_cons, List.map_nil]); repeat (first | (apply eL1; · exact zT0) | rfl)) (by (try simp only [go_sem]); try rfl) (by simp only [takeL, takeC, aget, Lk.upd, if_true, if_false, reduceIte, Nat.reduceEqDiff, List.append_nil, List.nil_append, List.cons_append]; try rfl) (by simp) (by rfl) (by rfl) (by rfl) ?_ | refine F_appRG zT1 (by rfl) zT0 zT9 (by simp [allCell_cons, allCell_nil, cellV]) (by first | exact eO rfl | exact eW rfl) (by (try simp only [go_sem]); try rfl) zT1 (by omega) (by unfold maxLen; omega) (by (try simp only [go_sem]); first | omega | decide) (by (try simp (disch := omega) only [go_sem, reduceIte, Nat.reduceEqDiff, Nat.reduceAdd, Nat.reduceMul, hsn]); try rfl) (by (try simp only [go_sem]); try rfl) (by rfl) ?_)
    refine hx_lG [0, 1, 6, 14, 15] (i + 1, ds ++ [out]) ⟨hin, by simp [hdl], fun j hj => ?_⟩ (by simp only; omega) rfl
    simp only
    by_cases e : j < i
    · have : (ds ++ [out]).getD j [] = ds.getD j [] := by
        rw [List.getD_eq_getElem?_getD, List.getElem?_append_left (by omega), ← List.getD_eq_getElem?_getD]
      rw [this]; exact hd j e
    · obtain rfl : j = i := by simp only at hj; omega
      have : (ds ++ [out]).getD j [] = out := by
        rw [List.getD_eq_getElem?_getD, List.getElem?_append_right (by omega), hdl]; simp
      rw [this]; exact hO
  · obtain rfl : i = nd.length := by omega
    repeat (first | refine F_mv zT0 rfl ?_ | refine F_nil zT1 ?_ | refine F_lss (by rfl) (by rfl) zT6 ?_ | refine F_lenS (by rfl) ?_ | refine hx_exitS (by rfl) ?_ | refine hx_false (by rfl) ?_ | refine hx_seq ?_ | refine hx_region ?_ | refine hx_block ?_ | refine F_mksl zT1 (by rfl) (by omega) (by (try simp only [go_sem]); try rfl) (by (try simp only [go_sem]); try rfl) ?_)
    have hrl : (List.replicate nd.length (0 : Int)).length = nd.length := by simp
    refine hx_loopG [0, 1, 6, 8, 29, 30, 31] (fun s : Nat × List Int => s.1 ≤ nd.length ∧ Rt bad ds nd.length (fun u k => u < s.1 ∧ k ∈ nd.getD u []) s.2)
      (fun s => ⟨[(0, .sl nd.length (rowsI (nd.map nl))), (1, .sl nd.length (HL.bools bad)), (6, .ref 0 [] 1 0 nd.length), (8, .ref 1 [] 1 0 nd.length), (29, .sl nd.length (rowsI (nd.map nl))), (30, .int .i64 nd.length), (31, .int .i64 s.1)], [(0, .osl 1 nd.length (rowsZ ds)), (1, .osl 1 nd.length (HL.ints s.2))], 2⟩)
      (fun s => nd.length - s.1) (0, List.replicate nd.length 0) ⟨by simp, ⟨hrl, fun k hk => by simp [hk], fun k hk h => by simp [hk] at h, fun k _ u hu => absurd hu.1 (by simp)⟩⟩ rfl ?_
    rintro ⟨u, round⟩ ⟨hu, hR⟩
    simp only at hu hR ⊢
    by_cases hun : u < nd.length
    · have hru := nl_len (nd.getD u [])
      have hgu := g.len u
      repeat (first | refine F_mv zT0 rfl ?_ | refine F_iaS (by rfl) (by rfl) (by omega) zT1 ?_ | refine F_ldP (by rfl) (by (try simp only [go_sem]); first | omega | decide) (by (try simp (disch := omega) only [go_sem, nl_getD]); try rfl) ?_ | refine F_nil zT1 ?_ | refine F_lss (by rfl) (by rfl) zT6 ?_ | refine F_lenS (by rfl) ?_ | refine hx_true (by rfl) ?_ | refine hx_seq ?_ | refine hx_region ?_ | refine hx_block ?_ | refine hx_skip ?_)
      refine hx_loopG [0, 1, 6, 8, 9, 29, 30, 31, 36, 37, 38] (fun s : Nat × List Int => s.1 ≤ (nd.getD u []).length ∧ Rt bad ds nd.length (fun a b => (a < u ∧ b ∈ nd.getD a []) ∨ (a = u ∧ b ∈ (nd.getD u []).take s.1)) s.2)
        (fun s => ⟨[(0, .sl nd.length (rowsI (nd.map nl))), (1, .sl nd.length (HL.bools bad)), (6, .ref 0 [] 1 0 nd.length), (8, .ref 1 [] 1 0 nd.length), (9, .int .i64 u), (29, .sl nd.length (rowsI (nd.map nl))), (30, .int .i64 nd.length), (31, .int .i64 u), (36, .sl (nd.getD u []).length (HL.ints (nl (nd.getD u [])))), (37, .int .i64 (nd.getD u []).length), (38, .int .i64 s.1)], [(0, .osl 1 nd.length (rowsZ ds)), (1, .osl 1 nd.length (HL.ints s.2))], 2⟩)
        (fun s => (nd.getD u []).length - s.1) (0, round) ⟨by simp, hR.congr fun a b => by simp⟩ rfl ?_
      clear hR
      clear round
      rintro ⟨e, round⟩ ⟨he, hR⟩
      simp only at he hR ⊢
      have hrl2 := hR.len
      by_cases hel : e < (nd.getD u []).length
      · have hkm := getD_mem (nd.getD u []) e 0 hel
        have hkn := g.lt u _ hkm
        have nx : ∀ a b, ((((a < u ∧ b ∈ nd.getD a []) ∨ (a = u ∧ b ∈ (nd.getD u []).take e)) ∨ (a = u ∧ b = (nd.getD u []).getD e 0)) ↔ ((a < u ∧ b ∈ nd.getD a []) ∨ (a = u ∧ b ∈ (nd.getD u []).take (e + 1)))) := fun a b => by
          rw [take_succ_getD _ _ 0 hel, List.mem_append, List.mem_singleton]
          constructor
          · rintro ((h | ⟨h1, h2⟩) | ⟨h1, h2⟩)
            · exact .inl h
            · exact .inr ⟨h1, .inl h2⟩
            · exact .inr ⟨h1, .inr h2⟩
          · rintro (h | ⟨h1, h2 | h2⟩)
            · exact .inl (.inl h)
            · exact .inl (.inr ⟨h1, h2⟩)
            · exact .inr ⟨h1, h2⟩
        have hdk := (hd _ hkn).len
        have hlow := (hd _ hkn).low u hun
        have hrk := hR.low _ hkn
        have hkeep := hR.keep (u := u) (k := (nd.getD u []).getD e 0)
        have hput := hR.put (u := u) hkn
        generalize hk : (nd.getD u []).getD e 0 = k at hkm hkn nx hdk hlow hrk hkeep hput
        generalize hD : (ds.getD k []).getD u 0 = D at hlow hkeep hput
        generalize hr : round.getD k 0 = r at hrk hkeep hput
        have skip : ¬ useE bad ds u k → Rt bad ds nd.length _ round := fun h => (hkeep fun h' => absurd h' h).congr nx
        cases hbu : bad.getD u false with
        | true =>
          repeat (first | refine F_mv zT0 rfl ?_ | refine F_no (by rfl) (by rfl) ?_ | refine F_iaS (by rfl) (by rfl) (by omega) zT1 ?_ | refine F_ldP (by rfl) (by (try simp only [go_sem]); first | omega | decide) (by (try simp (disch := omega) only [go_sem, hk, hbu]); try rfl) ?_ | refine F_nil zT1 ?_ | refine F_lss (by rfl) (by rfl) zT6 ?_ | refine F_pickT (by rfl) zT0 ?_ | refine F_add (by rfl) (by rfl) (by (try simp (disch := omega) only [go_sem, Int.reduceAdd, Int.reduceSub, Int.reduceMul, hk, hbu]); try rfl) ?_ | refine hx_exitS (by rfl) ?_ | refine hx_true (by rfl) ?_ | refine hx_seq ?_ | refine hx_region ?_ | refine hx_block ?_ | refine hx_skip ?_)
          exact hx_lG [0, 1, 6, 8, 9, 29, 30, 31, 36, 37, 38] (e + 1, round) ⟨hel, skip fun h => by rw [h.1] at hbu; cases hbu⟩ (by simp only; omega) rfl
        | false =>
          cases hbk : bad.getD k false with
          | true =>
            repeat (first | refine F_mv zT0 rfl ?_ | refine F_yes (by rfl) (by rfl) ?_ | refine F_no (by rfl) (by rfl) ?_ | refine F_iaS (by rfl) (by rfl) (by omega) zT1 ?_ | refine F_ldP (by rfl) (by (try simp only [go_sem]); first | omega | decide) (by (try simp (disch := omega) only [go_sem, hk, hbu, hbk]); try rfl) ?_ | refine F_nil zT1 ?_ | refine F_lss (by rfl) (by rfl) zT6 ?_ | refine F_pickT (by rfl) zT0 ?_ | refine F_pickF (by rfl) zT0 ?_ | refine F_add (by rfl) (by rfl) (by (try simp (disch := omega) only [go_sem, Int.reduceAdd, Int.reduceSub, Int.reduceMul, hk, hbu, hbk]); try rfl) ?_ | refine hx_exitS (by rfl) ?_ | refine hx_true (by rfl) ?_ | refine hx_seq ?_ | refine hx_region ?_ | refine hx_block ?_ | refine hx_skip ?_)
            exact hx_lG [0, 1, 6, 8, 9, 29, 30, 31, 36, 37, 38] (e + 1, round) ⟨hel, skip fun h => by rw [h.2.1] at hbk; cases hbk⟩ (by simp only; omega) rfl
          | false =>
            by_cases hD0 : D < 0
            · repeat (first | refine F_mv zT0 rfl ?_ | refine F_yes (by rfl) (by rfl) ?_ | refine F_iaS (by rfl) (by rfl) (by omega) zT1 ?_ | refine F_iaR (by rfl) (by rfl) (by omega) zT1 ?_ | refine F_ldP (by rfl) (by (try simp only [go_sem]); first | omega | decide) (by (try simp (disch := omega) only [go_sem, hk, hbu, hbk, hD]); try rfl) ?_ | refine F_ldR (by rfl) (by first | exact eO rfl | exact eW rfl) (by (try simp (disch := omega) only [go_sem, reduceIte, Nat.reduceEqDiff, Nat.reduceAdd, Nat.reduceMul, hk, hbu, hbk, hD]); try rfl) (by (try simp only [go_sem]); first | omega | decide) (by (try simp (disch := omega) only [go_sem, hk, hbu, hbk, hD]); try rfl) zT0 ?_ | refine F_nil zT1 ?_ | refine F_lss (by rfl) (by rfl) zT6 ?_ | refine F_pickF (by rfl) zT0 ?_ | refine F_add (by rfl) (by rfl) (by (try simp (disch := omega) only [go_sem, Int.reduceAdd, Int.reduceSub, Int.reduceMul, hk, hbu, hbk, hD]); try rfl) ?_ | refine hx_exitS (by rfl) ?_ | refine hx_true (by rfl) ?_ | refine hx_seq ?_ | refine hx_region ?_ | refine hx_block ?_ | refine hx_skip ?_)
              exact hx_lG [0, 1, 6, 8, 9, 29, 30, 31, 36, 37, 38] (e + 1, round) ⟨hel, skip fun h => by have := h.2.2; omega⟩ (by simp only; omega) rfl
            · have huse : useE bad ds u k := ⟨hbu, hbk, by omega⟩
              by_cases hr0 : r = 0
              · repeat (first | refine F_mv zT0 rfl ?_ | refine F_yes (by rfl) (by rfl) ?_ | refine F_iaS (by rfl) (by rfl) (by omega) zT1 ?_ | refine F_iaR (by rfl) (by rfl) (by omega) zT1 ?_ | refine F_ldP (by rfl) (by (try simp only [go_sem]); first | omega | decide) (by (try simp (disch := omega) only [go_sem, hk, hbu, hbk, hD, hr]); try rfl) ?_ | refine F_ldR (by rfl) (by first | exact eO rfl | exact eW rfl) (by (try simp (disch := omega) only [go_sem, reduceIte, Nat.reduceEqDiff, Nat.reduceAdd, Nat.reduceMul, hk, hbu, hbk, hD, hr]); try rfl) (by (try simp only [go_sem]); first | omega | decide) (by (try simp (disch := omega) only [go_sem, hk, hbu, hbk, hD, hr]); try rfl) zT0 ?_ | refine F_nil zT1 ?_ | refine F_lss (by rfl) (by rfl) zT6 ?_ | refine F_pickF (by rfl) zT0 ?_ | refine hx_true (by rfl) ?_ | refine hx_false (by rfl) ?_ | refine hx_seq ?_ | refine hx_region ?_ | refine hx_block ?_ | refine hx_skip ?_)
                refine hx_draw (by kernel_rfl) (by kernel_rfl) (fun _ _ _ => False) ?_
                repeat (first | refine F_mv zT0 rfl ?_ | refine F_no (by rfl) (by rfl) ?_ | refine F_iaR (by rfl) (by rfl) (by omega) zT1 ?_ | refine F_ldR (by rfl) (by first | exact eO rfl | exact eW rfl) (by (try simp (disch := omega) only [go_sem, reduceIte, Nat.reduceEqDiff, Nat.reduceAdd, Nat.reduceMul, hk, hbu, hbk, hD, hr]); try rfl) (by (try simp only [go_sem]); first | omega | decide) (by (try simp (disch := omega) only [go_sem, hk, hbu, hbk, hD, hr]); try rfl) zT0 ?_ | refine F_nil zT1 ?_ | refine F_eql (by rfl) (by rfl) (by first | exact eqT (by omega) | exact eqF (by omega) | rfl) ?_ | refine F_pickT (by rfl) zT0 ?_ | refine F_add (by rfl) (by rfl) (by (try simp (disch := omega) only [go_sem, Int.reduceAdd, Int.reduceSub, Int.reduceMul, hk, hbu, hbk, hD, hr]); try rfl) ?_ | refine hx_true (by rfl) ?_ | refine hx_region ?_ | refine hx_b ?_ | refine F_st (by rfl) zT0 (by (try simp only [go_sem]); try rfl) (by first | rfl | exact HL.ints_flat _ | exact HL.bools_flat _) (by rfl) (by decide) (by first | exact eO rfl | exact eW rfl) (by (try simp only [go_sem]); try rfl) (by (try simp only [go_sem]); first | omega | decide) (by (try simp (disch := omega) only [go_sem, hk, hbu, hbk, hD, hr]); try rfl) (by (try simp only [go_sem]); try rfl) ?_)
                exact hx_lG [0, 1, 6, 8, 9, 29, 30, 31, 36, 37, 38] (e + 1, _) ⟨hel, (hput huse (.inl hr0)).congr nx⟩ (by simp only; omega) rfl
              · by_cases hlt : D + 1 < r
                · repeat (first | refine F_mv zT0 rfl ?_ | refine F_yes (by rfl) (by rfl) ?_ | refine F_iaS (by rfl) (by rfl) (by omega) zT1 ?_ | refine F_iaR (by rfl) (by rfl) (by omega) zT1 ?_ | refine F_ldP (by rfl) (by (try simp only [go_sem]); first | omega | decide) (by (try simp (disch := omega) only [go_sem, hk, hbu, hbk, hD, hr]); try rfl) ?_ | refine F_ldR (by rfl) (by first | exact eO rfl | exact eW rfl) (by (try simp (disch := omega) only [go_sem, reduceIte, Nat.reduceEqDiff, Nat.reduceAdd, Nat.reduceMul, hk, hbu, hbk, hD, hr]); try rfl) (by (try simp only [go_sem]); first | omega | decide) (by (try simp (disch := omega) only [go_sem, hk, hbu, hbk, hD, hr]); try rfl) zT0 ?_ | refine F_nil zT1 ?_ | refine F_lss (by rfl) (by rfl) zT6 ?_ | refine F_pickF (by rfl) zT0 ?_ | refine hx_true (by rfl) ?_ | refine hx_false (by rfl) ?_ | refine hx_seq ?_ | refine hx_region ?_ | refine hx_block ?_ | refine hx_skip ?_)
                  refine hx_draw (by kernel_rfl) (by kernel_rfl) (fun _ _ _ => False) ?_
                  repeat (first | refine F_mv zT0 rfl ?_ | refine F_yes (by rfl) (by rfl) ?_ | refine F_iaR (by rfl) (by rfl) (by omega) zT1 ?_ | refine F_ldR (by rfl) (by first | exact eO rfl | exact eW rfl) (by (try simp (disch := omega) only [go_sem, reduceIte, Nat.reduceEqDiff, Nat.reduceAdd, Nat.reduceMul, hk, hbu, hbk, hD, hr]); try rfl) (by (try simp only [go_sem]); first | omega | decide) (by (try simp (disch := omega) only [go_sem, hk, hbu, hbk, hD, hr]); try rfl) zT0 ?_ | refine F_nil zT1 ?_ | refine F_lss (by rfl) (by rfl) zT6 ?_ | refine F_eql (by rfl) (by rfl) (by first | exact eqT (by omega) | exact eqF (by omega) | rfl) ?_ | refine F_pickF (by rfl) zT0 ?_ | refine F_add (by rfl) (by rfl) (by (try simp (disch := omega) only [go_sem, Int.reduceAdd, Int.reduceSub, Int.reduceMul, hk, hbu, hbk, hD, hr]); try rfl) ?_ | refine hx_true (by rfl) ?_ | refine hx_region ?_ | refine hx_b ?_ | refine F_st (by rfl) zT0 (by (try simp only [go_sem]); try rfl) (by first | rfl | exact HL.ints_flat _ | exact HL.bools_flat _) (by rfl) (by decide) (by first | exact eO rfl | exact eW rfl) (by (try simp only [go_sem]); try rfl) (by (try simp only [go_sem]); first | omega | decide) (by (try simp (disch := omega) only [go_sem, hk, hbu, hbk, hD, hr]); try rfl) (by (try simp only [go_sem]); try rfl) ?_)
                  exact hx_lG [0, 1, 6, 8, 9, 29, 30, 31, 36, 37, 38] (e + 1, _) ⟨hel, (hput huse (.inr hlt)).congr nx⟩ (by simp only; omega) rfl
                · repeat (first | refine F_mv zT0 rfl ?_ | refine F_yes (by rfl) (by rfl) ?_ | refine F_iaS (by rfl) (by rfl) (by omega) zT1 ?_ | refine F_iaR (by rfl) (by rfl) (by omega) zT1 ?_ | refine F_ldP (by rfl) (by (try simp only [go_sem]); first | omega | decide) (by (try simp (disch := omega) only [go_sem, hk, hbu, hbk, hD, hr]); try rfl) ?_ | refine F_ldR (by rfl) (by first | exact eO rfl | exact eW rfl) (by (try simp (disch := omega) only [go_sem, reduceIte, Nat.reduceEqDiff, Nat.reduceAdd, Nat.reduceMul, hk, hbu, hbk, hD, hr]); try rfl) (by (try simp only [go_sem]); first | omega | decide) (by (try simp (disch := omega) only [go_sem, hk, hbu, hbk, hD, hr]); try rfl) zT0 ?_ | refine F_nil zT1 ?_ | refine F_lss (by rfl) (by rfl) zT6 ?_ | refine F_pickF (by rfl) zT0 ?_ | refine hx_true (by rfl) ?_ | refine hx_false (by rfl) ?_ | refine hx_seq ?_ | refine hx_region ?_ | refine hx_block ?_ | refine hx_skip ?_)
                  refine hx_draw (by kernel_rfl) (by kernel_rfl) (fun _ _ _ => False) ?_
                  repeat (first | refine F_mv zT0 rfl ?_ | refine F_yes (by rfl) (by rfl) ?_ | refine F_iaR (by rfl) (by rfl) (by omega) zT1 ?_ | refine F_ldR (by rfl) (by first | exact eO rfl | exact eW rfl) (by (try simp (disch := omega) only [go_sem, reduceIte, Nat.reduceEqDiff, Nat.reduceAdd, Nat.reduceMul, hk, hbu, hbk, hD, hr]); try rfl) (by (try simp only [go_sem]); first | omega | decide) (by (try simp (disch := omega) only [go_sem, hk, hbu, hbk, hD, hr]); try rfl) zT0 ?_ | refine F_nil zT1 ?_ | refine F_lss (by rfl) (by rfl) zT6 ?_ | refine F_eql (by rfl) (by rfl) (by first | exact eqT (by omega) | exact eqF (by omega) | rfl) ?_ | refine F_pickF (by rfl) zT0 ?_ | refine F_add (by rfl) (by rfl) (by (try simp (disch := omega) only [go_sem, Int.reduceAdd, Int.reduceSub, Int.reduceMul, hk, hbu, hbk, hD, hr]); try rfl) ?_ | refine hx_false (by rfl) ?_ | refine hx_region ?_ | refine hx_b ?_ | refine hx_skip ?_)
                  exact hx_lG [0, 1, 6, 8, 9, 29, 30, 31, 36, 37, 38] (e + 1, round) ⟨hel, (hkeep fun _ => ⟨by omega, by omega⟩).congr nx⟩ (by simp only; omega) rfl
      · obtain rfl : e = (nd.getD u []).length := by omega
        repeat (first | refine F_mv zT0 rfl ?_ | refine F_nil zT1 ?_ | refine F_lss (by rfl) (by rfl) zT6 ?_ | refine F_add (by rfl) (by rfl) zT11 ?_ | refine hx_exitS (by rfl) ?_ | refine hx_false (by rfl) ?_ | refine hx_seq ?_ | refine hx_region ?_ | refine hx_b ?_)
        refine hx_lG [0, 1, 6, 8, 29, 30, 31] (u + 1, round) ⟨hun, hR.congr fun a b => ?_⟩ (by simp only; omega) rfl
        rw [List.take_length]
        constructor
        · rintro (⟨h1, h2⟩ | ⟨rfl, h2⟩)
          · exact ⟨by omega, h2⟩
          · exact ⟨by omega, h2⟩
        · rintro ⟨h1, h2⟩
          by_cases e : a = u
          · subst e; exact .inr ⟨rfl, h2⟩
          · exact .inl ⟨by omega, h2⟩
    · obtain rfl : u = nd.length := by omega
      repeat (first | refine F_mv zT0 rfl ?_ | refine F_nil zT1 ?_ | refine F_lss (by rfl) (by rfl) zT6 ?_ | refine hx_exitS (by rfl) ?_ | refine hx_false (by rfl) ?_ | refine hx_seq ?_ | refine hx_region ?_)
      refine hx_retF (by (try simp only [List.map_cons, List.map_nil]); repeat (first | (apply eL1; · exact zT0) | rfl)) zT5 zT7 ?_
      refine ⟨ds, round, rfl, hdl, hd, hR.congr fun a b => ⟨fun h => h.2, fun h => ⟨?_, h⟩⟩⟩
      apply Classical.byContradiction
      intro hn
      have : nd.getD a [] = [] := by rw [List.getD_eq_getElem?_getD, List.getElem?_eq_none (by omega)]; rfl
      rw [this] at h; cases h

end Go.Proofs.Ytjlidhijnohkbaa
