/-
  OWN WORK. Hull of package closure and of its reference, in the value language.
-/
import Derived.Test.YtkhbiknjkffpjaaClHull
import Derived.Test.YtkhbiknjkffpjaaHlRo
set_option linter.unusedSimpArgs false
set_option linter.unusedVariables false
namespace Go.Proofs.Ytkhbiknjkffpjaa
open Go.RowKit Go.SL Go.HL

def SBox (l : List Nat) (v : HV) : Prop := v = stk l ∨ (l = [] ∧ v = .nils)
/-- What a visit makes of the boxes. -/
def visO (out : List Bool) (i : Nat) : List Bool := if out.getD i false = true then out else out.set i true
def visL (out : List Bool) (i : Nat) (l : List Nat) : List Nat := if out.getD i false = true then l else l ++ [i]

set_option maxHeartbeats 4000000 in
theorem ht_visit (out : List Bool) (l : List Nat) (v : HV) (i : Nat) (hv : SBox l v) (hi : i < out.length) (hn : out.length ≤ 100000) (hl : l.length ≤ 50000) :
    HTI Try.prog 44 [.int .i64 i, .optr [.osl 1 out.length (HL.bools out)], .optr [v]] [1, 2] (fun r outs => r = .tup [] ∧ ∃ v', SBox (visL out i l) v' ∧ outs = [.optr [.osl 1 out.length (HL.bools (visO out i))], .optr [v']]) := by
  refine HTI.of rfl fc44 (Nat.le_of_ble_eq_true rfl) 3 [1, 2] (by rfl) (by rfl) (⟨[(0, .int .i64 i), (1, .pref 0 [] 0), (2, .pref 1 [] 0)], [(0, .optr [.osl 1 out.length (HL.bools out)]), (1, .optr [v])], 2⟩ : St) rfl ?_
  unfold c44
  unfold visO visL
  cases hb : out.getD i false with
  | true =>
    repeat (first | refine F_mv zT0 rfl ?_ | refine F_iaR (by rfl) (by rfl) (by omega) zT1 ?_ | refine F_ldR (by rfl) (by first | exact eO rfl | exact eW rfl) (by (try simp (disch := omega) only [go_sem, reduceIte, Nat.reduceEqDiff, Nat.reduceAdd, Nat.reduceMul, hb]); try rfl) (by (try simp only [go_sem]); first | omega | decide) (by (try simp (disch := omega) only [go_sem, hb]); try rfl) zT0 ?_ | refine F_nil zT1 ?_ | refine hx_false (by rfl) ?_ | refine hx_seq ?_ | refine hx_region ?_ | refine hx_skip ?_ | refine F_notT (by rfl) ?_)
    refine hx_endF (rs := [1, 2]) (by (try simp only [List.map_cons, List.map_nil]); repeat (first | (apply eL1; · exact zT0) | rfl)) zT12 zT7 ?_
    exact ⟨_, rfl, rfl, by simp, rfl, v, by simpa using hv, by simp⟩
  | false =>
    refine hx_seq ?_
    refine hx_region ?_
    repeat (first | refine F_mv zT0 rfl ?_ | refine F_iaR (by rfl) (by rfl) (by omega) zT1 ?_ | refine F_ldR (by rfl) (by first | exact eO rfl | exact eW rfl) (by (try simp (disch := omega) only [go_sem, reduceIte, Nat.reduceEqDiff, Nat.reduceAdd, Nat.reduceMul, hb]); try rfl) (by (try simp only [go_sem]); first | omega | decide) (by (try simp (disch := omega) only [go_sem, hb]); try rfl) zT0 ?_ | refine F_nil zT1 ?_ | refine F_notF (by rfl) ?_)
    refine hx_true (by rfl) ?_
    refine hx_seq ?_
    refine hx_region ?_
    repeat (first | refine F_mv zT0 rfl ?_ | refine F_iaR (by rfl) (by rfl) (by omega) zT1 ?_ | refine F_ldR (by rfl) (by first | exact eO rfl | exact eW rfl) (by (try simp only [go_sem]); try rfl) (by (try simp only [go_sem]); first | omega | decide) (by (try simp (disch := omega) only [go_sem]); try rfl) zT0 ?_ | refine F_nil zT1 ?_ | refine F_st (by rfl) zT0 (by (try simp only [go_sem]); try rfl) zT10 (by rfl) (by decide) (by first | exact eO rfl | exact eW rfl) (by (try simp only [go_sem]); try rfl) (by (try simp only [go_sem]); first | omega | decide) (by (try simp (disch := omega) only [go_sem]); try rfl) (by (try simp only [go_sem]); try rfl) ?_)
    refine hx_dropN [0, 1, 2] (⟨[(0, .int .i64 i), (1, .pref 0 [] 0), (2, .pref 1 [] 0)], [(0, .optr [.osl 1 out.length (HL.bools (out.set i true))]), (1, .optr [v])], 2⟩ : St) rfl ?_
    refine hx_regionW 1 (by rfl) ?_
    simp only [List.take_succ_cons, List.take_zero, List.drop_succ_cons, List.drop_zero]
    repeat (first | refine F_mv zT0 rfl ?_ | refine F_nil zT1 ?_)
    rcases hv with rfl | ⟨rfl, rfl⟩
    · refine hx_callIG [0] [1] (by (try simp only [List.map_cons, List.map_nil]); repeat (first | (apply eL1; · exact zT0) | rfl)) zT12 zT7 rfl (by decide) (ht_push l i (by omega)) (by rfl) ?_
      rintro _ _ ⟨rfl, rfl⟩ -
      refine ⟨_, _, _, _, _, zT4, zT13, ?_⟩
      repeat (first | refine F_nil zT1 ?_ | refine hx_region ?_)
      refine hx_endF (rs := [1, 2]) (by (try simp only [List.map_cons, List.map_nil]); repeat (first | (apply eL1; · exact zT0) | rfl)) zT12 zT7 ?_
      exact ⟨_, rfl, rfl, by simp, rfl, _, .inl rfl, by simp⟩
    · refine hx_callIG [0] [1] (by (try simp only [List.map_cons, List.map_nil]); repeat (first | (apply eL1; · exact zT0) | rfl)) zT12 zT7 rfl (by decide) (ht_push0 i) (by rfl) ?_
      rintro _ _ ⟨rfl, rfl⟩ -
      refine ⟨_, _, _, _, _, zT4, zT13, ?_⟩
      repeat (first | refine F_nil zT1 ?_ | refine hx_region ?_)
      refine hx_endF (rs := [1, 2]) (by (try simp only [List.map_cons, List.map_nil]); repeat (first | (apply eL1; · exact zT0) | rfl)) zT12 zT7 ?_
      exact ⟨_, rfl, rfl, by simp, rfl, _, .inl rfl, by simp⟩

theorem HInv.vis {g : List (List Int)} {set out : List Bool} {l : List Nat} {m i : Nat} {ex : Nat → Prop} (h : HInv g set m ex out l) (hi : i < set.length) (hx : ∀ X, ClosedX g X → Sub set X → X.getD i false = true) :
    HInv g set m ex (visO out i) (visL out i l) ∧ (visO out i).getD i false = true ∧ (∀ u, out.getD u false = true → (visO out i).getD u false = true) ∧ 2 * unm (visO out i) + (visL out i l).length ≤ 2 * unm out + l.length := by
  unfold visO visL
  cases hb : out.getD i false with
  | true => exact ⟨by simpa using h, by simpa using hb, fun u hu => by simpa using hu, by simp⟩
  | false =>
    have hio : i < out.length := by rw [h.len]; exact hi
    have hg : ∀ u : Nat, (out.set i true).getD u false = if i = u then true else out.getD u false := fun u => getD_setT out i u hio
    have hu := unm_set out i hio hb
    simp only [Bool.false_eq_true, if_false]
    refine ⟨h.visit hi hb hx, by rw [hg]; simp, fun u hu => by rw [hg]; split; rfl; exact hu, ?_⟩
    rw [List.length_append]
    simp only [List.length_cons, List.length_nil]
    omega
theorem snoc_ex {α : Type} {l : List α} (h : l ≠ []) : ∃ l0 p, l = l0 ++ [p] := ⟨l.dropLast, l.getLast h, (List.dropLast_concat_getLast h).symm⟩
theorem repl_bools (n : Nat) : (List.replicate n [HV.bool false]).flatten = HL.bools (List.replicate n false) := by
  induction n with
  | zero => rfl
  | succ n ih => simp only [List.replicate_succ, List.flatten_cons, ih]; rfl

set_option maxHeartbeats 8000000 in
theorem ht_hull (g : List (List Int)) (set : List Bool) (h1 : g.length ≤ 300) (h2 : set.length ≤ 9223372036854775807) (h3 : ∀ i, (g.getD i []).length ≤ 9223372036854775807) :
    HT Try.prog 18 [Gs g, Bl set] (fun r => ∃ out, r = .osl 1 out.length (HL.bools out) ∧ (fitsB g set = false ∧ out = [] ∨ fitsB g set = true ∧ IsHull g set out)) := by
  refine HT.of rfl fc18 (Nat.le_of_ble_eq_true rfl) ?_
  unfold c18
  simp only [Gs, Bl, argSlots, Nat.reduceAdd]
  repeat (first | refine F_mv zT0 rfl ?_ | refine F_nil zT1 ?_ | refine hx_seq ?_ | refine hx_region ?_ | refine F_mvnil rfl (by rfl) zT1 ?_)
  refine F_call (by (try simp only [List.map_cons, List.map_nil]); repeat (first | (apply eL1; · exact zT0) | rfl)) (by simp (disch := omega) only [thawL, Gs, HV.thaw, allIds, aget, nget, if_true, if_false, reduceIte, Nat.reduceEqDiff, stripL, HV.strip, win_intsE, win_boolsE, win_edgesE, Nat.mul_one, List.cons_append, List.nil_append, List.append_nil, I, Bl, T3, Es, List.getD_cons_zero, List.getD_cons_succ, HL.ints_strip, HL.bools_strip, trip_strip, edges_strip]; try rfl) (ht_fits g set (by omega) h2 h3) ?_
  rintro _ rfl
  refine ⟨zT3, _, _, _, _, _, zT4, (by decide), (by simp only [upF, upS]; try rfl), ?_⟩
  cases hf : fitsB g set with
  | false =>
    repeat (first | refine F_nil zT1 ?_ | refine hx_true (by rfl) ?_ | refine hx_seq ?_ | refine hx_region ?_ | refine F_mvnil rfl (by rfl) zT1 ?_ | refine F_notF (by rfl) ?_)
    refine hx_retF (by (try simp only [List.map_cons, List.map_nil]); repeat (first | (apply eL1; · exact zT0) | rfl)) zT5 zT7 ?_
    exact ⟨[], rfl, .inl ⟨rfl, rfl⟩⟩
  | true =>
    obtain ⟨he, hin⟩ := fits_in hf
    have hrb := repl_bools set.length
    repeat (first | refine F_mv zT0 rfl ?_ | refine F_nil zT1 ?_ | refine F_lenS (by rfl) ?_ | refine hx_false (by rfl) ?_ | refine hx_seq ?_ | refine hx_region ?_ | refine hx_skip ?_ | refine F_notT (by rfl) ?_ | refine F_stG (by rfl) zT0 (by (try simp only [go_sem]); try rfl) (by simp only [takeL, takeC, aget, Lk.upd, if_true, if_false, reduceIte, Nat.reduceEqDiff, List.append_nil, List.nil_append, List.cons_append]; try rfl) (by first | trivial | (refine ⟨?_, ?_⟩ <;> trivial)) (by rfl) (by first | exact Nat.zero_lt_one | decide) (by rfl) (by simp only [Lk.upd, aget, if_true, if_false, reduceIte, Nat.reduceEqDiff, reduceCtorEq]; try rfl) (by (try simp only [go_sem]); try rfl) (by (try simp only [go_sem]); first | omega | decide) (by (try simp (disch := omega) only [go_sem]); try rfl) (by (try simp only [go_sem]); try rfl) (by simp only [upF, List.cons_append, List.nil_append, List.append_nil, List.map_cons, List.map_nil, HV.kill, killL, List.length_nil, List.length_cons, Nat.reduceEqDiff, Nat.reduceLT, Nat.reduceAdd, if_true, if_false, reduceIte, and_true, true_and, and_false, false_and, and_self, reduceCtorEq, Nat.lt_irrefl]; try rfl) ?_ | refine F_newz zT1 ?_ | refine F_mksl zT1 (by rfl) (by omega) (by (try simp only [go_sem]); try rfl) (by (try simp only [go_sem]); try rfl) ?_)
    refine F_mkfn (by (try simp only [List.map_cons, List.map_nil]); repeat (first | (apply eL1; · exact zT0) | rfl)) ?_
    repeat (first | refine F_mv zT0 rfl ?_ | refine F_nil zT1 ?_ | refine F_lenS (by rfl) ?_ | refine hx_seq ?_ | refine hx_region ?_ | refine hx_block ?_)
    refine hx_loopG [0, 5, 6, 7, 20, 21, 22] (fun s : Nat × List Bool × List Nat × HV => s.1 ≤ set.length ∧ SBox s.2.2.1 s.2.2.2 ∧ HInv g set s.1 (fun _ => False) s.2.1 s.2.2.1)
      (fun s => ⟨[(0, .sl g.length (rowsI g)), (5, .pref 0 [] 0), (6, .pref 1 [] 0), (7, .fn 44 [.pref 0 [] 0, .pref 1 [] 0]), (20, .sl set.length (HL.bools set)), (21, .int .i64 set.length), (22, .int .i64 s.1)], [(0, .optr [.osl 1 set.length (HL.bools s.2.1)]), (1, .optr [s.2.2.2])], 2⟩)
      (fun s => set.length - s.1) (0, List.replicate set.length false, [], .nils) ⟨by simp, .inr ⟨rfl, rfl⟩, HInv.init g set⟩ rfl ?_
    rintro ⟨i, out, l, v⟩ ⟨hi, hv, hI⟩
    simp only at hi hv hI ⊢
    have hol := hI.len
    have hfew := hI.few
    by_cases hil : i < set.length
    · cases hsi : set.getD i false with
      | false =>
        repeat (first | refine F_mv zT0 rfl ?_ | refine F_iaS (by rfl) (by rfl) (by omega) zT1 ?_ | refine F_ldP (by rfl) (by (try simp only [go_sem]); first | omega | decide) (by (try simp (disch := omega) only [go_sem, hsi]); try rfl) ?_ | refine F_nil zT1 ?_ | refine F_lss (by rfl) (by rfl) zT6 ?_ | refine F_add (by rfl) (by rfl) (by (try simp (disch := omega) only [go_sem, Int.reduceAdd, Int.reduceSub, Int.reduceMul, hsi]); try rfl) ?_ | refine hx_true (by rfl) ?_ | refine hx_false (by rfl) ?_ | refine hx_seq ?_ | refine hx_region ?_ | refine hx_block ?_ | refine hx_b ?_ | refine hx_skip ?_)
        exact hx_lG [0, 5, 6, 7, 20, 21, 22] (i + 1, out, l, v) ⟨hil, hv, hI.next (fun h => by rw [hsi] at h; cases h)⟩ (by simp only; omega) rfl
      | true =>
        have hvis := ht_visit out l v i hv (by omega) (by omega) (by omega)
        rw [hol] at hvis
        obtain ⟨a1, a2, a3, a4⟩ := hI.vis hil (fun X _ hX => hX i hsi)
        refine hx_seq ?_
        refine hx_region ?_
        repeat (first | refine F_nil zT1 ?_ | refine F_lss (by rfl) (by rfl) zT6 ?_)
        refine hx_seq ?_
        refine hx_true (by rfl) ?_
        refine hx_skip ?_
        refine hx_seq ?_
        refine hx_block ?_
        refine hx_seq ?_
        refine hx_region ?_
        repeat (first | refine F_mv zT0 rfl ?_ | refine F_iaS (by rfl) (by rfl) (by omega) zT1 ?_ | refine F_ldP (by rfl) (by (try simp only [go_sem]); first | omega | decide) (by (try simp (disch := omega) only [go_sem, hsi]); try rfl) ?_ | refine F_nil zT1 ?_)
        refine hx_seq ?_
        refine hx_region ?_
        repeat (first | refine F_mv zT0 rfl ?_ | refine F_nil zT1 ?_)
        refine hx_true (by rfl) ?_
        refine hx_regionW 2 (by rfl) ?_
        simp only [List.take_succ_cons, List.take_zero, List.drop_succ_cons, List.drop_zero]
        repeat (first | refine F_mv zT0 rfl ?_ | refine F_nil zT1 ?_)
        refine hx_callIV [1, 2] [0, 1] (by rfl) (by (try simp only [List.map_cons, List.map_nil, List.cons_append, List.nil_append]); repeat (first | (apply eL1; · exact zT0) | rfl)) zT12 zT7 rfl (by decide) (hvis) (by rfl) ?_
        rintro _ _ ⟨rfl, v', hv', rfl⟩ -
        refine ⟨_, _, _, _, _, zT4, zT13, ?_⟩
        repeat (first | refine F_mv zT0 rfl ?_ | refine F_nil zT1 ?_ | refine F_add (by rfl) (by rfl) zT11 ?_ | refine hx_region ?_ | refine hx_b ?_)
        exact hx_lG [0, 5, 6, 7, 20, 21, 22] (i + 1, visO out i, visL out i l, v') ⟨hil, hv', a1.next (fun _ => a2)⟩ (by simp only; omega) rfl
    · obtain rfl : i = set.length := by omega
      repeat (first | refine F_nil zT1 ?_ | refine F_lss (by rfl) (by rfl) zT6 ?_ | refine hx_exitS (by rfl) ?_ | refine hx_false (by rfl) ?_ | refine hx_seq ?_ | refine hx_region ?_ | refine hx_block ?_)
      refine hx_loopG [0, 5, 6, 7] (fun s : List Bool × List Nat × HV => SBox s.2.1 s.2.2 ∧ HInv g set set.length (fun _ => False) s.1 s.2.1)
        (fun s => ⟨[(0, .sl g.length (rowsI g)), (5, .pref 0 [] 0), (6, .pref 1 [] 0), (7, .fn 44 [.pref 0 [] 0, .pref 1 [] 0])], [(0, .optr [.osl 1 set.length (HL.bools s.1)]), (1, .optr [s.2.2])], 2⟩)
        (fun s => 2 * unm s.1 + s.2.1.length) (out, l, v) ⟨hv, hI⟩ rfl ?_
      clear hI hv hol hfew hil hi
      clear out l v
      rintro ⟨out, l, v⟩ ⟨hv, hI⟩
      simp only at hv hI ⊢
      have hol := hI.len
      have hfew := hI.few
      by_cases hl0 : l = []
      · subst hl0
        rcases hv with rfl | ⟨-, rfl⟩
        · unfold stk
          repeat (first | refine F_mv zT0 rfl ?_ | refine F_ldR (by rfl) (by first | exact eO rfl | exact eW rfl) (by (try simp only [go_sem]); try rfl) (by (try simp only [go_sem]); first | omega | decide) (by (try simp (disch := omega) only [go_sem]); try rfl) zT0 ?_ | refine F_nil zT1 ?_ | refine F_lenR (by rfl) ?_ | refine hx_exitS (by rfl) ?_ | refine hx_false (by rfl) ?_ | refine hx_seq ?_ | refine hx_region ?_ | refine F_gtr (by rfl) (by rfl) zT6 ?_ | refine F_faR (by rfl) (by rfl) ?_)
          refine hx_unboxN 0 [4] (⟨[(4, .ref 0 [] 1 0 set.length)], [(0, .osl 1 set.length (HL.bools out))], 1⟩ : St) rfl ?_
          refine hx_retF (by (try simp only [List.map_cons, List.map_nil]); repeat (first | (apply eL1; · exact zT0) | rfl)) zT5 zT7 ?_
          exact ⟨out, by rw [hol]; rfl, .inr ⟨trivial, hI.hull⟩⟩
        · repeat (first | refine F_mv zT0 rfl ?_ | refine F_ldR (by rfl) (by first | exact eO rfl | exact eW rfl) (by (try simp only [go_sem]); try rfl) (by (try simp only [go_sem]); first | omega | decide) (by (try simp (disch := omega) only [go_sem]); try rfl) zT0 ?_ | refine F_nil zT1 ?_ | refine hx_exitS (by rfl) ?_ | refine hx_false (by rfl) ?_ | refine hx_seq ?_ | refine hx_region ?_ | refine F_gtr (by rfl) (by rfl) zT6 ?_ | refine F_lenN (by rfl) ?_ | refine F_faR (by rfl) (by rfl) ?_)
          refine hx_unboxN 0 [4] (⟨[(4, .ref 0 [] 1 0 set.length)], [(0, .osl 1 set.length (HL.bools out))], 1⟩ : St) rfl ?_
          refine hx_retF (by (try simp only [List.map_cons, List.map_nil]); repeat (first | (apply eL1; · exact zT0) | rfl)) zT5 zT7 ?_
          exact ⟨out, by rw [hol]; rfl, .inr ⟨trivial, hI.hull⟩⟩
      · obtain ⟨l0, p, rfl⟩ := snoc_ex hl0
        obtain ⟨hP, hpn, hpo⟩ := hI.pop
        have hfew2 := hP.few
        obtain rfl : v = stk (l0 ++ [p]) := by
          rcases hv with h | ⟨h, _⟩
          · exact h
          · exact absurd h hl0
        have hlp : (l0 ++ [p]).length = l0.length + 1 := by simp
        have hnp := nl_len (l0 ++ [p])
        have hpop := ht_pop l0 p (by omega)
        unfold stk at hpop ⊢
        rw [hlp] at hpop hfew ⊢
        obtain ⟨row, hrow⟩ : ∃ row, g.getD p [] = row := ⟨_, rfl⟩
        have hrl := h3 p
        rw [hrow] at hrl
        refine hx_seq ?_
        refine hx_seq ?_
        refine hx_region ?_
        repeat (first | refine F_ldR (by rfl) (by first | exact eO rfl | exact eW rfl) (by (try simp only [go_sem]); try rfl) (by (try simp only [go_sem]); first | omega | decide) (by (try simp (disch := omega) only [go_sem]); try rfl) zT0 ?_ | refine F_nil zT1 ?_ | refine F_lenR (by rfl) ?_ | refine F_gtr (by rfl) (by rfl) zT6 ?_ | refine F_faR (by rfl) (by rfl) ?_)
        refine hx_true (by rfl) ?_
        refine hx_skip ?_
        refine hx_block ?_
        refine hx_seq ?_
        refine hx_regionW 1 (by rfl) ?_
        simp only [List.take_succ_cons, List.take_zero, List.drop_succ_cons, List.drop_zero]
        repeat (first | refine F_mv zT0 rfl ?_ | refine F_nil zT1 ?_)
        refine hx_callIG [0] [1] (by (try simp only [List.map_cons, List.map_nil]); repeat (first | (apply eL1; · exact zT0) | rfl)) zT12 zT7 rfl (by decide) (hpop) (by rfl) ?_
        rintro _ _ ⟨rfl, rfl⟩ -
        refine ⟨_, _, _, _, _, zT4, zT13, ?_⟩
        repeat (first | refine F_mv zT0 rfl ?_ | refine F_iaS (by rfl) (by rfl) (by omega) zT1 ?_ | refine F_ldP (by rfl) (by (try simp only [go_sem]); first | omega | decide) (by (try simp (disch := omega) only [go_sem, hrow]); try rfl) ?_ | refine F_nil zT1 ?_ | refine F_lenS (by rfl) ?_ | refine hx_region ?_ | refine hx_block ?_)
        refine hx_loopG [0, 5, 6, 7, 39, 40, 41] (fun s : Nat × List Bool × List Nat × HV => s.1 ≤ row.length ∧ SBox s.2.2.1 s.2.2.2 ∧ HInv g set set.length (fun u => u = p) s.2.1 s.2.2.1 ∧ (∀ k, k < s.1 → s.2.1.getD (row.getD k 0).toNat false = true) ∧ (∀ u, out.getD u false = true → s.2.1.getD u false = true) ∧ 2 * unm s.2.1 + s.2.2.1.length ≤ 2 * unm out + l0.length)
          (fun s => ⟨[(0, .sl g.length (rowsI g)), (5, .pref 0 [] 0), (6, .pref 1 [] 0), (7, .fn 44 [.pref 0 [] 0, .pref 1 [] 0]), (39, .sl row.length (HL.ints row)), (40, .int .i64 row.length), (41, .int .i64 s.1)], [(0, .optr [.osl 1 set.length (HL.bools s.2.1)]), (1, .optr [s.2.2.2])], 2⟩)
          (fun s => row.length - s.1) (0, out, l0, stk l0) ⟨by simp, .inl rfl, hP, fun k hk => absurd hk (Nat.not_lt_zero _), fun u h => h, Nat.le_refl _⟩ rfl ?_
        rintro ⟨j, out', l', v'⟩ ⟨hj, hv', hI', hall, hmono, hms⟩
        simp only at hj hv' hI' hall hmono hms ⊢
        have hol' := hI'.len
        have hfew' := hI'.few
        by_cases hjl : j < row.length
        · obtain ⟨x, hx⟩ : ∃ x, row.getD j 0 = x := ⟨_, rfl⟩
          have hxm : x ∈ g.getD p [] := by rw [hrow, ← hx]; exact getD_memI row 0 hjl
          obtain ⟨y, rfl⟩ : ∃ y : Nat, x = y := ⟨x.toNat, by have := (hin p x hxm).1; omega⟩
          have hyn : y < set.length := by have := (hin p y hxm).2; omega
          have hvis := ht_visit out' l' v' y hv' (by omega) (by omega) (by omega)
          rw [hol'] at hvis
          obtain ⟨a1, a2, a3, a4⟩ := hI'.vis hyn (fun X hX1 hX2 => by
            have := hX1 p (hI'.least X hX1 hX2 p (hmono p hpo)) y hxm
            simpa using this)
          refine hx_seq ?_
          refine hx_region ?_
          repeat (first | refine F_nil zT1 ?_ | refine F_lss (by rfl) (by rfl) zT6 ?_)
          refine hx_seq ?_
          refine hx_true (by rfl) ?_
          refine hx_skip ?_
          refine hx_seq ?_
          refine hx_block ?_
          refine hx_seq ?_
          refine hx_region ?_
          repeat (first | refine F_mv zT0 rfl ?_ | refine F_iaS (by rfl) (by rfl) (by omega) zT1 ?_ | refine F_ldP (by rfl) (by (try simp only [go_sem]); first | omega | decide) (by (try simp (disch := omega) only [go_sem, hx]); try rfl) ?_ | refine F_nil zT1 ?_)
          refine hx_regionW 2 (by rfl) ?_
          simp only [List.take_succ_cons, List.take_zero, List.drop_succ_cons, List.drop_zero]
          repeat (first | refine F_mv zT0 rfl ?_ | refine F_nil zT1 ?_)
          refine hx_callIV [1, 2] [0, 1] (by rfl) (by (try simp only [List.map_cons, List.map_nil, List.cons_append, List.nil_append]); repeat (first | (apply eL1; · exact zT0) | rfl)) zT12 zT7 rfl (by decide) (hvis) (by rfl) ?_
          rintro _ _ ⟨rfl, v2, hv2, rfl⟩ -
          refine ⟨_, _, _, _, _, zT4, zT13, ?_⟩
          repeat (first | refine F_mv zT0 rfl ?_ | refine F_nil zT1 ?_ | refine F_add (by rfl) (by rfl) zT11 ?_ | refine hx_region ?_ | refine hx_b ?_)
          exact hx_lG [0, 5, 6, 7, 39, 40, 41] (j + 1, visO out' y, visL out' y l', v2) ⟨hjl, hv2, a1, fun k hk => by
            by_cases e : k = j
            · subst e; rw [hx]; simpa using a2
            · exact a3 _ (hall k (by omega)), fun u hu => a3 u (hmono u hu), by simp only; omega⟩ (by simp only; omega) rfl
        · obtain rfl : j = row.length := by omega
          have hD := hI'.done (fun q hq => by
            rw [hrow] at hq
            obtain ⟨k, hk, rfl⟩ := List.getElem_of_mem hq
            have := hall k hk
            rwa [show row.getD k 0 = row[k] by rw [List.getD_eq_getElem?_getD, List.getElem?_eq_getElem hk, Option.getD_some]] at this)
          repeat (first | refine F_nil zT1 ?_ | refine F_lss (by rfl) (by rfl) zT6 ?_ | refine hx_exitS (by rfl) ?_ | refine hx_false (by rfl) ?_ | refine hx_seq ?_ | refine hx_region ?_ | refine hx_b ?_)
          exact hx_lG [0, 5, 6, 7] (out', l', v') ⟨hv', hD⟩ (by simp only; omega) rfl

end Go.Proofs.Ytkhbiknjkffpjaa
