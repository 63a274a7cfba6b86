/-
  OWN WORK. Chains of nodes: their ranks; which inputs are small.
-/
import Derived.Test.YtjlidhijnohkbaaGrRank
import Derived.Test.YtjlidhijnohkbaaGrRrank
import Derived.Test.YtjlidhijnohkbaaGrHas
set_option linter.unusedSimpArgs false
set_option linter.unusedVariables false
namespace Go.Proofs.Ytjlidhijnohkbaa
open Go.RowKit Go.HL

def chainN (m : Nat) : List (List Nat) := (List.range m).map fun u => if u = 0 then [] else [u - 1]
theorem chainN_len (m : Nat) : (chainN m).length = m := by simp [chainN]
theorem chainN_get (m : Nat) {u : Nat} (h : u < m) : (chainN m).getD u [] = if u = 0 then [] else [u - 1] := by simp [chainN, h]
theorem chainN_out (m : Nat) {u : Nat} (h : ¬ u < m) : (chainN m).getD u [] = [] := by
  rw [List.getD_eq_getElem?_getD, List.getElem?_eq_none (by rw [chainN_len]; omega)]; rfl
theorem rep_get (m u : Nat) : (List.replicate m false).getD u false = false := by
  by_cases h : u < m
  · simp [h]
  · rw [List.getD_eq_getElem?_getD, List.getElem?_eq_none (by simp; omega)]; rfl
theorem chain_gr (m : Nat) (h : m ≤ 256) : Gr (chainN m) (List.replicate m false) := by
  refine ⟨by rw [chainN_len]; exact h, by simp [chainN_len], fun i j hj => ?_, fun i => ?_⟩
  · rw [chainN_len]
    by_cases hi : i < m
    · rw [chainN_get m hi] at hj
      split at hj
      · cases hj
      · simp at hj; omega
    · rw [chainN_out m hi] at hj; cases hj
  · by_cases hi : i < m
    · rw [chainN_get m hi]; split <;> simp
    · rw [chainN_out m hi]; exact .nil
theorem chain_rank (m : Nat) (h : m ≤ 256) {rank : List Int} (hr : IsRank (chainN m) (List.replicate m false) rank) : ∀ u, u < m → rank.getD u 0 = u := by
  have g := chain_gr m h
  have hc : IsRank (chainN m) (List.replicate m false) ((List.range m).map fun u => ((u : Nat) : Int)) := by
    have hg : ∀ u, u < m → ((List.range m).map fun u => ((u : Nat) : Int)).getD u 0 = u := fun u hu => by simp [hu]
    refine ⟨by simp [chainN_len], fun u hu => ?_, fun u hu _ => ?_, fun u hu h => ?_⟩
    · rw [chainN_len] at hu ⊢; rw [hg u hu]; omega
    · rw [chainN_len] at hu
      rw [hg u hu, chainN_get m hu]
      refine ⟨rep_get m u, fun j hj => ?_, ?_⟩
      · split at hj
        · cases hj
        · simp at hj; subst hj; rw [hg _ (by omega)]; omega
      · by_cases h0 : u = 0
        · left; simp [h0]
        · right
          rw [if_neg h0]
          exact ⟨u - 1, by simp, by rw [hg _ (by omega)]; omega⟩
    · rw [chainN_len] at hu; rw [hg u hu] at h; omega
  intro u hu
  rw [hr.unique g hc]
  simp [hu]

/-- The chain in the value language: its first row is nil. -/
def chainC (i : Nat) : List HV := (List.range i).map fun u : Nat => if u = 0 then .nils else .osl 1 1 [.int .i64 ((u : Int) - 1)]
def chainS (i : Nat) : List HV := (List.range i).map fun u : Nat => if u = 0 then .nils else .sl 1 [.int .i64 ((u : Int) - 1)]
theorem chainC_len (i : Nat) : (chainC i).length = i := by simp [chainC]
theorem chainC_zero : chainC 0 ++ [.nils] = chainC 1 := by simp [chainC]
theorem chainC_succ {i : Nat} (h : i ≠ 0) : chainC i ++ [.osl 1 1 [.int .i64 ((i : Int) - 1)]] = chainC (i + 1) := by simp [chainC, List.range_succ, h]
theorem chainC_strip (i : Nat) : stripL (chainC i) = chainS i := by
  unfold chainC chainS
  generalize List.range i = l
  induction l with
  | nil => rfl
  | cons a r ih =>
    simp only [List.map_cons, stripL, ih]
    by_cases h : a = 0 <;> simp [h, HV.strip, stripL]
theorem chainC_win (i : Nat) : win (chainC i) 0 i = chainC i := win_all _ (chainC_len i).symm
theorem chainC_cell (i : Nat) : allCell (chainC i) = true := by
  unfold chainC allCell
  rw [List.all_eq_true]
  intro v hv
  obtain ⟨u, _, rfl⟩ := List.mem_map.1 hv
  split <;> rfl
theorem chainS_rows (m : Nat) : rowsI ((chainN m).map nl) = (List.range m).map fun u : Nat => if u = 0 then .sl 0 [] else .sl 1 [.int .i64 ((u : Int) - 1)] := by
  simp only [rowsI, chainN, List.map_map]
  apply List.map_congr_left
  intro u _
  simp only [Function.comp]
  by_cases h : u = 0
  · simp [h, nl, HL.ints]
  · simp only [h, if_false]
    simp only [nl, HL.ints, List.map_cons, List.map_nil, List.length_cons, List.length_nil]
    have : ((u - 1 : Nat) : Int) = (u : Int) - 1 := by omega
    rw [this]
theorem chain_weak (m : Nat) (x : List HV) {F : Nat → Prop} {hh : Hp} {rargs : List Value} (o : OW F hh noR (.sl m (chainS m) :: x) rargs []) : OW F hh noR (Gs ((chainN m).map nl) :: x) rargs [] := by
  have cells : ∀ (l : List Nat) (rvs : List Value), OW F hh noR (l.map fun u : Nat => if u = 0 then HV.nils else .sl 1 [.int .i64 ((u : Int) - 1)]) rvs [] → OW F hh noR (l.map fun u : Nat => if u = 0 then HV.sl 0 [] else .sl 1 [.int .i64 ((u : Int) - 1)]) rvs [] := by
    intro l
    induction l with
    | nil => intro rvs o; exact o
    | cons a r ih =>
      intro rvs o
      simp only [List.map_cons] at o ⊢
      by_cases h : a = 0
      · simp only [h, if_true] at o ⊢
        generalize hf : ([] : List Nat) = fs at o
        cases o with
        | nils o => subst hf; exact .sl0 (ih _ o)
        | leaf _ _ _ _ _ _ hr _ => exact hr.elim
      · simp only [h, if_false] at o ⊢
        obtain ⟨rv, rr, f1, f2, rfl, e2, o1, o2⟩ : ∃ rv rr f1 f2, rvs = rv :: rr ∧ [] = f1 ++ f2 ∧ OW F hh noR [.sl 1 [.int .i64 ((a : Int) - 1)]] [rv] f1 ∧ OW F hh noR (r.map fun u : Nat => if u = 0 then HV.nils else .sl 1 [.int .i64 ((u : Int) - 1)]) rr f2 := of_cons o
        obtain ⟨rfl, rfl⟩ : f1 = [] ∧ f2 = [] := by simpa using e2.symm
        exact o1.cons1 (ih _ o2)
  obtain ⟨rv, rr, rfl, o1, o2⟩ := of_consE o
  suffices h9 : OW F hh noR [Gs ((chainN m).map nl)] [rv] [] from h9.cons1 o2
  unfold Gs
  rw [chainS_rows, List.length_map, chainN_len]
  rcases of_sl o1 with ⟨h1, h2, a, cap, rfl⟩ | ⟨g, off, cap, cur, e, fr, rfl, hg, hb, hn, ho⟩
  · subst h1; exact .sl0 .nil
  · refine .sl hg hb ?_ hn (cells _ _ ho) .nil
    simp [chainS]

set_option maxHeartbeats 1000000 in
theorem ht_gsmall (needs : List (List Int)) (bad : List Bool) (h1 : needs.length ≤ 9223372036854775807) (h2 : bad.length ≤ 9223372036854775807) (h3 : ∀ i, (needs.getD i []).length ≤ 9223372036854775807) : HT Try.prog 19 [Gs needs, Bl bad] (fun r => ∃ b, r = .bool b) := by
  refine HT.of rfl fc19 (Nat.le_of_ble_eq_true rfl) ?_
  unfold c19
  simp only [Gs, Bl, argSlots, Nat.reduceAdd]
  by_cases a1 : needs.length > 300
  · repeat (first | refine F_mv (by first | exact eI rfl | exact eB rfl | exact eR rfl | exact eS rfl | exact eP rfl | exact eT rfl | exact eA rfl | exact eN rfl | exact eQ rfl | exact eF rfl | exact eD rfl) rfl ?_ | refine F_no (by rfl) (by rfl) ?_ | refine F_nil (by (try simp only [go_sem, reduceIte, Nat.reduceEqDiff, Nat.reduceAdd, Nat.reduceMul]); try rfl) ?_ | refine F_pickT (by rfl) (by first | exact eI rfl | exact eB rfl | exact eR rfl | exact eS rfl | exact eP rfl | exact eT rfl | exact eA rfl | exact eN rfl | exact eQ rfl | exact eF rfl | exact eD rfl) ?_ | refine F_lenS (by rfl) ?_ | refine hx_true (by rfl) ?_ | refine hx_seq ?_ | refine hx_region ?_ | refine F_gtr (by rfl) (by rfl) (by first | exact ltT (by omega) | exact ltF (by omega) | rfl) ?_)
    refine hx_retF (by (try simp only [List.map_cons, List.map_nil]); repeat (first | (apply eL1; · exact (by first | exact eI rfl | exact eB rfl | exact eR rfl | exact eS rfl | exact eP rfl | exact eT rfl | exact eA rfl | exact eN rfl | exact eQ rfl | exact eF rfl | exact eD rfl)) | rfl)) (by simp only [takeDL, takeD, takeC, aget, Lk.upd, if_true, if_false, reduceIte, Nat.reduceEqDiff, List.append_nil, List.nil_append]; try rfl) (by first | trivial | (refine ⟨?_, ?_⟩ <;> trivial) | (simp only [and_true, true_and]; done)) ?_
    exact ⟨_, rfl⟩
  by_cases a2 : bad.length > 300
  · repeat (first | refine F_mv (by first | exact eI rfl | exact eB rfl | exact eR rfl | exact eS rfl | exact eP rfl | exact eT rfl | exact eA rfl | exact eN rfl | exact eQ rfl | exact eF rfl | exact eD rfl) rfl ?_ | refine F_yes (by rfl) (by rfl) ?_ | refine F_nil (by (try simp only [go_sem, reduceIte, Nat.reduceEqDiff, Nat.reduceAdd, Nat.reduceMul]); try rfl) ?_ | refine F_pickF (by rfl) (by first | exact eI rfl | exact eB rfl | exact eR rfl | exact eS rfl | exact eP rfl | exact eT rfl | exact eA rfl | exact eN rfl | exact eQ rfl | exact eF rfl | exact eD rfl) ?_ | refine F_lenS (by rfl) ?_ | refine hx_true (by rfl) ?_ | refine hx_seq ?_ | refine hx_region ?_ | refine F_gtr (by rfl) (by rfl) (by first | exact ltT (by omega) | exact ltF (by omega) | rfl) ?_)
    refine hx_retF (by (try simp only [List.map_cons, List.map_nil]); repeat (first | (apply eL1; · exact (by first | exact eI rfl | exact eB rfl | exact eR rfl | exact eS rfl | exact eP rfl | exact eT rfl | exact eA rfl | exact eN rfl | exact eQ rfl | exact eF rfl | exact eD rfl)) | rfl)) (by simp only [takeDL, takeD, takeC, aget, Lk.upd, if_true, if_false, reduceIte, Nat.reduceEqDiff, List.append_nil, List.nil_append]; try rfl) (by first | trivial | (refine ⟨?_, ?_⟩ <;> trivial) | (simp only [and_true, true_and]; done)) ?_
    exact ⟨_, rfl⟩
  repeat (first | refine F_mv (by first | exact eI rfl | exact eB rfl | exact eR rfl | exact eS rfl | exact eP rfl | exact eT rfl | exact eA rfl | exact eN rfl | exact eQ rfl | exact eF rfl | exact eD rfl) rfl ?_ | refine F_yes (by rfl) (by rfl) ?_ | refine F_nil (by (try simp only [go_sem, reduceIte, Nat.reduceEqDiff, Nat.reduceAdd, Nat.reduceMul]); try rfl) ?_ | refine F_pickF (by rfl) (by first | exact eI rfl | exact eB rfl | exact eR rfl | exact eS rfl | exact eP rfl | exact eT rfl | exact eA rfl | exact eN rfl | exact eQ rfl | exact eF rfl | exact eD rfl) ?_ | refine F_lenS (by rfl) ?_ | refine hx_false (by rfl) ?_ | refine hx_seq ?_ | refine hx_region ?_ | refine hx_block ?_ | refine hx_skip ?_ | refine F_gtr (by rfl) (by rfl) (by first | exact ltT (by omega) | exact ltF (by omega) | rfl) ?_)
  refine hx_loopG [0, 1, 5] (fun i : Nat => i ≤ needs.length) (fun i => ⟨[(0, .sl needs.length (rowsI needs)), (1, .sl bad.length (HL.bools bad)), (5, .int .i64 i)], [], 0⟩) (fun i => needs.length - i) 0 (by omega) rfl ?_
  rintro i hi
  by_cases hin : i < needs.length
  · have := h3 i
    by_cases a3 : (needs.getD i []).length > 20
    · repeat (first | refine F_mv (by first | exact eI rfl | exact eB rfl | exact eR rfl | exact eS rfl | exact eP rfl | exact eT rfl | exact eA rfl | exact eN rfl | exact eQ rfl | exact eF rfl | exact eD rfl) rfl ?_ | refine F_iaS (by rfl) (by rfl) (by omega) (by (try simp only [go_sem, reduceIte, Nat.reduceEqDiff, Nat.reduceAdd, Nat.reduceMul]); try rfl) ?_ | refine F_ldP (by rfl) (by (try simp only [go_sem]); first | omega | decide) (by (try simp (disch := omega) only [go_sem]); try rfl) ?_ | refine F_nil (by (try simp only [go_sem, reduceIte, Nat.reduceEqDiff, Nat.reduceAdd, Nat.reduceMul]); try rfl) ?_ | refine F_lss (by rfl) (by rfl) (by first | exact ltT (by omega) | exact ltF (by omega) | rfl) ?_ | refine F_lenS (by rfl) ?_ | refine hx_true (by rfl) ?_ | refine hx_seq ?_ | refine hx_region ?_ | refine hx_block ?_ | refine hx_skip ?_ | refine F_gtr (by rfl) (by rfl) (by first | exact ltT (by omega) | exact ltF (by omega) | rfl) ?_)
      refine hx_retF (by (try simp only [List.map_cons, List.map_nil]); repeat (first | (apply eL1; · exact (by first | exact eI rfl | exact eB rfl | exact eR rfl | exact eS rfl | exact eP rfl | exact eT rfl | exact eA rfl | exact eN rfl | exact eQ rfl | exact eF rfl | exact eD rfl)) | rfl)) (by simp only [takeDL, takeD, takeC, aget, Lk.upd, if_true, if_false, reduceIte, Nat.reduceEqDiff, List.append_nil, List.nil_append]; try rfl) (by first | trivial | (refine ⟨?_, ?_⟩ <;> trivial) | (simp only [and_true, true_and]; done)) ?_
      exact ⟨_, rfl⟩
    · repeat (first | refine F_mv (by first | exact eI rfl | exact eB rfl | exact eR rfl | exact eS rfl | exact eP rfl | exact eT rfl | exact eA rfl | exact eN rfl | exact eQ rfl | exact eF rfl | exact eD rfl) rfl ?_ | refine F_iaS (by rfl) (by rfl) (by omega) (by (try simp only [go_sem, reduceIte, Nat.reduceEqDiff, Nat.reduceAdd, Nat.reduceMul]); try rfl) ?_ | refine F_ldP (by rfl) (by (try simp only [go_sem]); first | omega | decide) (by (try simp (disch := omega) only [go_sem]); try rfl) ?_ | refine F_nil (by (try simp only [go_sem, reduceIte, Nat.reduceEqDiff, Nat.reduceAdd, Nat.reduceMul]); try rfl) ?_ | refine F_lss (by rfl) (by rfl) (by first | exact ltT (by omega) | exact ltF (by omega) | rfl) ?_ | refine F_add (by rfl) (by rfl) (by (try simp (disch := omega) only [go_sem, Int.reduceAdd, Int.reduceSub, Int.reduceMul]); try rfl) ?_ | refine F_lenS (by rfl) ?_ | refine hx_true (by rfl) ?_ | refine hx_false (by rfl) ?_ | refine hx_seq ?_ | refine hx_region ?_ | refine hx_block ?_ | refine hx_b ?_ | refine hx_skip ?_ | refine F_gtr (by rfl) (by rfl) (by first | exact ltT (by omega) | exact ltF (by omega) | rfl) ?_)
      exact hx_lG [0, 1, 5] (i + 1) hin (by omega) rfl
  · repeat (first | refine F_mv (by first | exact eI rfl | exact eB rfl | exact eR rfl | exact eS rfl | exact eP rfl | exact eT rfl | exact eA rfl | exact eN rfl | exact eQ rfl | exact eF rfl | exact eD rfl) rfl ?_ | refine F_nil (by (try simp only [go_sem, reduceIte, Nat.reduceEqDiff, Nat.reduceAdd, Nat.reduceMul]); try rfl) ?_ | refine F_lss (by rfl) (by rfl) (by first | exact ltT (by omega) | exact ltF (by omega) | rfl) ?_ | refine F_lenS (by rfl) ?_ | refine hx_exitS (by rfl) ?_ | refine hx_false (by rfl) ?_ | refine hx_seq ?_ | refine hx_region ?_)
    refine hx_retF (by (try simp only [List.map_cons, List.map_nil]); repeat (first | (apply eL1; · exact (by first | exact eI rfl | exact eB rfl | exact eR rfl | exact eS rfl | exact eP rfl | exact eT rfl | exact eA rfl | exact eN rfl | exact eQ rfl | exact eF rfl | exact eD rfl)) | rfl)) (by simp only [takeDL, takeD, takeC, aget, Lk.upd, if_true, if_false, reduceIte, Nat.reduceEqDiff, List.append_nil, List.nil_append]; try rfl) (by first | trivial | (refine ⟨?_, ?_⟩ <;> trivial) | (simp only [and_true, true_and]; done)) ?_
    exact ⟨_, rfl⟩

theorem ht_gvalid_t (nd : List (List Nat)) (bad : List Bool) (g : Gr nd bad) : HT Try.prog 14 [Gs (nd.map nl), Bl bad] (fun r => r = .bool true) := by
  have hsz := g.size
  have hbl := g.bads
  refine (ht_gvalid (nd.map nl) bad (by simp; omega) (by omega) (fun i => by rw [nl_getD, nl_len]; have := g.len i; omega)).mono ?_
  rintro r ⟨b, rfl, hb⟩
  rw [hb.2 g.vg]
theorem ht_rvalid_t (nd : List (List Nat)) (bad : List Bool) (g : Gr nd bad) : HT Try.prog 15 [Gs (nd.map nl), Bl bad] (fun r => r = .bool true) := by
  have hsz := g.size
  have hbl := g.bads
  refine (ht_rvalid24 (nd.map nl) bad (by simp; omega) (by omega) (fun i => by rw [nl_getD, nl_len]; have := g.len i; omega)).mono ?_
  rintro r ⟨b, rfl, hb⟩
  rw [hb.2 g.vg]
/-- Both give the same ranks. -/
theorem ht_ranks_both (needs : List (List Int)) (bad : List Bool) (h1 : needs.length ≤ 9223372036854775807) (h2 : bad.length ≤ 9223372036854775807) (h3 : ∀ i, (needs.getD i []).length ≤ 9223372036854775807) : ∃ (b : Bool) (q : Nat) (rank : List Int), rank.length = q ∧ q ≤ 256 ∧
    HT Try.prog 14 [Gs needs, Bl bad] (fun r => r = .bool b) ∧ HT Try.prog 15 [Gs needs, Bl bad] (fun r => r = .bool b) ∧
    HT Try.prog 17 [Gs needs, Bl bad] (fun r => r = .osl 1 q (HL.ints rank)) ∧ HT Try.prog 18 [Gs needs, Bl bad] (fun r => r = .osl 1 q (HL.ints rank)) := by
  by_cases hv : VG needs bad
  · obtain ⟨nd, rfl, g⟩ := hv.gr
    by_cases hex : ∃ rank, IsRank nd bad rank
    · obtain ⟨rank, hR⟩ := hex
      refine ⟨true, nd.length, rank, hR.len, g.size, ht_gvalid_t nd bad g, ht_rvalid_t nd bad g, (ht_grank nd bad g).mono ?_, (ht_rrank nd bad g).mono ?_⟩ <;>
      · rintro r ⟨rank2, rfl, hR2⟩; rw [hR2.unique g hR]
    · refine ⟨true, 0, [], rfl, by omega, ht_gvalid_t nd bad g, ht_rvalid_t nd bad g, (ht_grank nd bad g).mono ?_, (ht_rrank nd bad g).mono ?_⟩ <;>
      · rintro r ⟨rank2, rfl, hR2⟩; exact absurd ⟨_, hR2⟩ hex
  · refine ⟨false, 0, [], rfl, by omega, (ht_gvalid needs bad h1 h2 h3).mono ?_, (ht_rvalid24 needs bad h1 h2 h3).mono ?_, ht_grank_bad needs bad h1 h2 h3 hv, ht_rrank_bad needs bad h1 h2 h3 hv⟩ <;>
    · rintro r ⟨b, rfl, hb⟩
      cases b with
      | false => rfl
      | true => exact absurd (hb.1 rfl) hv

end Go.Proofs.Ytjlidhijnohkbaa
