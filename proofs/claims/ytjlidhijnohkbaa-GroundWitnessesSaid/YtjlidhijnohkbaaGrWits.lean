/-
  OWN WORK. The law GroundWitnesses in the value language.
-/
import Derived.Test.YtjlidhijnohkbaaCodesGroundWitnesses
import Derived.Test.YtjlidhijnohkbaaGrSrch
import Derived.Test.YtjlidhijnohkbaaGrCcl
import Derived.Test.YtjlidhijnohkbaaGrWitQ
import Derived.Test.YtjlidhijnohkbaaGrRanE
import Derived.Test.YtjlidhijnohkbaaGrLives
set_option linter.unusedSimpArgs false
set_option linter.unusedVariables false
namespace Go.Proofs.Ytjlidhijnohkbaa
open Go.RowKit Go.HL

/-- What the reference's Witness returns for a node of a valid graph. -/
def RefW (nd : List (List Nat)) (bad : List Bool) (i : Nat) (out : List Nat) : Prop :=
  (out = [] ∧ ∀ q, q ≤ nd.length → srch nd bad (q + 1) q [i] = []) ∨ ∃ q, q ≤ nd.length ∧ out = srch nd bad (q + 1) q [i] ∧ out ≠ [] ∧ ∀ q', q' < q → srch nd bad (q' + 1) q' [i] = []
theorem IsWit.few {nd : List (List Nat)} {bad : List Bool} {i : Nat} {path : List Nat} (w : IsWit nd bad i path) : path.length ≤ nd.length + 1 := by
  have hnd : (path.take (path.length - 1)).Nodup := by
    rw [List.nodup_iff_pairwise_ne, List.pairwise_iff_getElem]
    intro a b ha hb hab e
    rw [List.length_take] at ha hb
    have hn : ¬ (bad.getD (path.getD b 0) false = true ∨ path.getD b 0 ∈ path.take b) := fun h => by have := (w.ends b (by omega)).1 h; omega
    refine hn (.inr ?_)
    rw [List.getElem_take, List.getElem_take] at e
    rw [List.getD_eq_getElem?_getD, List.getElem?_eq_getElem (show b < path.length by omega), Option.getD_some, ← e]
    exact List.mem_take_iff_getElem.2 ⟨a, by omega, rfl⟩
  have := nodup_lt_len hnd (n := nd.length) (fun u hu => by
    obtain ⟨k, hk, rfl⟩ := mem_getD 0 (List.mem_of_mem_take hu)
    exact w.lt k hk)
  rw [List.length_take] at this
  omega
theorem RefW.none {nd : List (List Nat)} {bad : List Bool} {rank : List Int} {i : Nat} {out : List Nat} (g : Gr nd bad) (hR : IsRank nd bad rank) (hi : i < nd.length) (h0 : 0 ≤ rank.getD i 0) (h : RefW nd bad i out) : out = [] := by
  rcases h with h | ⟨q, _, h, hne, _⟩
  · exact h.1
  · rw [srch_none g hR hi h0] at h; exact absurd h hne
theorem RefW.path {nd : List (List Nat)} {bad : List Bool} {ds : List (List Int)} {round rank : List Int} {i : Nat} {total : Int} {path out : List Nat} (g : Gr nd bad) (hi : i < nd.length) (t : IsTable nd bad ds round) (s : Pth nd bad ds round rank i total path) (hl : (path.length : Int) = total + 1) (h : RefW nd bad i out) : out = path := by
  have hp := s.pos
  have w := s.wit t hl
  have hfew := w.few
  have h1 : path.take 1 = [i] := by
    cases path with
    | nil => cases hp
    | cons a l => have := s.head; simp at this; simp [this]
  have hf := srch_pth g t s hl (path.length - 1) 1 (by omega) (by omega)
  rw [h1] at hf
  have hless : ∀ q, q + 1 < path.length → srch nd bad (q + 1) q [i] = [] := fun q hq => srch_less g t hi s.start (by omega) q
  have hpe : path ≠ [] := fun e => by rw [e] at hp; cases hp
  rcases h with ⟨_, h⟩ | ⟨q, hq, h, hne, hmin⟩
  · have := h (path.length - 1) (by omega)
    rw [show path.length - 1 + 1 = path.length by omega, hf] at this
    exact absurd this hpe
  · rcases Nat.lt_trichotomy (q + 1) path.length with h2 | h2 | h2
    · rw [hless q h2] at h; exact absurd h hne
    · obtain rfl : q = path.length - 1 := by omega
      rw [h, show path.length - 1 + 1 = path.length by omega, hf]
    · have := hmin (path.length - 1) (by omega)
      rw [show path.length - 1 + 1 = path.length by omega, hf] at this
      exact absurd this hpe

set_option maxHeartbeats 4000000 in
theorem ht_rwitness_no (nd : List (List Nat)) (bad : List Bool) (i : Int) (g : Gr nd bad) (hno : i < 0 ∨ (nd.length : Int) ≤ i) : HT Try.prog 25 [Gs (nd.map nl), Bl bad, .int .i64 i] (fun r => r = .osl 1 0 []) := by
  have hsz := g.size
  have hbl := g.bads
  have hnl : (nd.map nl).length = nd.length := by simp
  refine HT.of rfl fc25 (Nat.le_of_ble_eq_true rfl) ?_
  unfold c25
  simp only [Gs, Bl, argSlots, Nat.reduceAdd]
  rw [hnl, hbl]
  repeat (first | refine F_mv zT0 rfl ?_ | refine F_nil zT1 ?_ | refine hx_seq ?_ | refine hx_region ?_ | refine F_mvnil rfl (by rfl) zT1 ?_)
  refine F_call (by (try simp only [List.map_cons, List.map_nil]); repeat (first | (apply eL1; · exact zT0) | rfl)) (by simp (disch := omega) only [thawL, Gs, hnl, hbl, HV.thaw, allIds, aget, nget, if_true, if_false, reduceIte, Nat.reduceEqDiff, stripL, HV.strip, win_intsE, win_boolsE, Nat.mul_one, List.cons_append, List.nil_append, List.append_nil, I, Bl, T3, List.getD_cons_zero, List.getD_cons_succ, HL.ints_strip, HL.bools_strip, trip_strip]; try rfl) (ht_rvalid24 (nd.map nl) bad (by omega) (by omega) (fun i => by rw [nl_getD, nl_len]; have := g.len i; omega)) ?_
  rintro _ ⟨b, rfl, hb⟩
  obtain rfl : b = true := hb.2 g.vg
  refine ⟨(by simp only [refFreeL, HV.refFree, noRdL, HV.noRd, HL.ints_noRd, HL.bools_noRd, trip_noRd, Bool.or_true, Bool.true_or, Bool.or_false, Bool.false_or, Bool.and_true, Bool.true_and, Bool.and_self, List.isEmpty_nil, beq_self_eq_true, List.cons_append, List.nil_append]), _, _, _, _, _, zT4, (by decide), (by simp only [upF, upS]; try rfl), ?_⟩
  rcases hno with h | h
  · repeat (first | refine F_mv zT0 rfl ?_ | refine F_yes (by rfl) (by rfl) ?_ | refine F_no (by rfl) (by rfl) ?_ | refine F_nil zT1 ?_ | refine F_lss (by rfl) (by rfl) zT6 ?_ | refine F_pickT (by rfl) zT0 ?_ | refine F_pickF (by rfl) zT0 ?_ | refine hx_true (by rfl) ?_ | refine hx_seq ?_ | refine hx_region ?_ | refine F_mvnil rfl (by rfl) zT1 ?_ | refine F_notT (by rfl) ?_)
    refine hx_retF (by (try simp only [List.map_cons, List.map_nil]); repeat (first | (apply eL1; · exact zT0) | rfl)) zT5 zT7 ?_
    rfl
  · by_cases h0 : i < 0
    · repeat (first | refine F_mv zT0 rfl ?_ | refine F_yes (by rfl) (by rfl) ?_ | refine F_no (by rfl) (by rfl) ?_ | refine F_nil zT1 ?_ | refine F_lss (by rfl) (by rfl) zT6 ?_ | refine F_pickT (by rfl) zT0 ?_ | refine F_pickF (by rfl) zT0 ?_ | refine hx_true (by rfl) ?_ | refine hx_seq ?_ | refine hx_region ?_ | refine F_mvnil rfl (by rfl) zT1 ?_ | refine F_notT (by rfl) ?_)
      refine hx_retF (by (try simp only [List.map_cons, List.map_nil]); repeat (first | (apply eL1; · exact zT0) | rfl)) zT5 zT7 ?_
      rfl
    · repeat (first | refine F_mv zT0 rfl ?_ | refine F_yes (by rfl) (by rfl) ?_ | refine F_nil zT1 ?_ | refine F_lss (by rfl) (by rfl) zT6 ?_ | refine F_pickF (by rfl) zT0 ?_ | refine F_lenS (by rfl) ?_ | refine hx_true (by rfl) ?_ | refine hx_seq ?_ | refine hx_region ?_ | refine F_mvnil rfl (by rfl) zT1 ?_ | refine F_geq (by rfl) (by rfl) (by first | exact leT (by omega) | exact leF (by omega) | rfl) ?_ | refine F_notT (by rfl) ?_)
      refine hx_retF (by (try simp only [List.map_cons, List.map_nil]); repeat (first | (apply eL1; · exact zT0) | rfl)) zT5 zT7 ?_
      rfl

set_option maxHeartbeats 8000000 in
theorem ht_rwitness (nd : List (List Nat)) (bad : List Bool) (i : Nat) (g : Gr nd bad) (hi : i < nd.length) : HT Try.prog 25 [Gs (nd.map nl), Bl bad, .int .i64 i] (fun r => ∃ out, r = .osl 1 out.length (HL.ints (nl out)) ∧ RefW nd bad i out) := by
  have hsz := g.size
  have hbl := g.bads
  have hnl : (nd.map nl).length = nd.length := by simp
  refine HT.of rfl fc25 (Nat.le_of_ble_eq_true rfl) ?_
  unfold c25
  simp only [Gs, Bl, argSlots, Nat.reduceAdd]
  rw [hnl, hbl]
  repeat (first | refine F_mv zT0 rfl ?_ | refine F_nil zT1 ?_ | refine hx_seq ?_ | refine hx_region ?_ | refine F_mvnil rfl (by rfl) zT1 ?_)
  refine F_call (by (try simp only [List.map_cons, List.map_nil]); repeat (first | (apply eL1; · exact zT0) | rfl)) (by simp (disch := omega) only [thawL, Gs, hnl, hbl, HV.thaw, allIds, aget, nget, if_true, if_false, reduceIte, Nat.reduceEqDiff, stripL, HV.strip, win_intsE, win_boolsE, Nat.mul_one, List.cons_append, List.nil_append, List.append_nil, I, Bl, T3, List.getD_cons_zero, List.getD_cons_succ, HL.ints_strip, HL.bools_strip, trip_strip]; try rfl) (ht_rvalid24 (nd.map nl) bad (by omega) (by omega) (fun i => by rw [nl_getD, nl_len]; have := g.len i; omega)) ?_
  rintro _ ⟨b, rfl, hb⟩
  obtain rfl : b = true := hb.2 g.vg
  refine ⟨(by simp only [refFreeL, HV.refFree, noRdL, HV.noRd, HL.ints_noRd, HL.bools_noRd, trip_noRd, Bool.or_true, Bool.true_or, Bool.or_false, Bool.false_or, Bool.and_true, Bool.true_and, Bool.and_self, List.isEmpty_nil, beq_self_eq_true, List.cons_append, List.nil_append]), _, _, _, _, _, zT4, (by decide), (by simp only [upF, upS]; try rfl), ?_⟩
  repeat (first | refine F_mv zT0 rfl ?_ | refine F_yes (by rfl) (by rfl) ?_ | refine F_nil zT1 ?_ | refine F_lss (by rfl) (by rfl) zT6 ?_ | refine F_pickF (by rfl) zT0 ?_ | refine F_lenS (by rfl) ?_ | refine hx_false (by rfl) ?_ | refine hx_seq ?_ | refine hx_region ?_ | refine hx_block ?_ | refine hx_skip ?_ | refine F_geq (by rfl) (by rfl) (by first | exact leT (by omega) | exact leF (by omega) | rfl) ?_ | refine F_notT (by rfl) ?_)
  refine hx_loopG [0, 1, 2, 7] (fun m : Nat => 1 ≤ m ∧ m ≤ nd.length + 2 ∧ ∀ q, q + 1 < m → srch nd bad (q + 1) q [i] = [])
    (fun m => ⟨[(0, .sl nd.length (rowsI (nd.map nl))), (1, .sl nd.length (HL.bools bad)), (2, .int .i64 i), (7, .int .i64 m)], [], 0⟩) (fun m => nd.length + 2 - m) 1 ⟨by omega, by omega, fun q hq => absurd hq (by omega)⟩ rfl ?_
  rintro m ⟨hm1, hm2, hnm⟩
  by_cases hml : m ≤ nd.length + 1
  · obtain ⟨out, hout⟩ : ∃ out, srch nd bad m (m - 1) [i] = out := ⟨_, rfl⟩
    have hc := ht_search nd bad g m (by omega) (m - 1) [i] (by simp; omega) (by simp) (by simp; exact hi)
    rw [hout] at hc
    simp only [Gs, Bl] at hc
    rw [hnl, hbl] at hc
    have hl1 : (nl [i]).length = 1 := rfl
    have hstep : out = [] → ∀ q, q + 1 < m + 1 → srch nd bad (q + 1) q [i] = [] := fun h q hq => by
      by_cases e : q + 1 = m
      · have e2 : q = m - 1 := by omega
        rw [e, e2, hout, h]
      · exact hnm q (by omega)
    have hres : out ≠ [] → RefW nd bad i out := fun h => .inr ⟨m - 1, by omega, by rw [← hout, show m - 1 + 1 = m by omega], h, fun q' hq' => hnm q' (by omega)⟩
    refine hx_seq ?_
    refine hx_seq ?_
    refine hx_region ?_
    repeat (first | refine F_mv zT0 rfl ?_ | refine F_nil zT1 ?_ | refine F_add (by rfl) (by rfl) zT11 ?_ | refine F_lenS (by rfl) ?_ | refine F_leq (by rfl) (by rfl) (by first | exact leT (by omega) | exact leF (by omega) | rfl) ?_)
    refine hx_true (by rfl) ?_
    refine hx_skip ?_
    refine hx_seq ?_
    refine hx_block ?_
    refine hx_seq ?_
    refine hx_regionW 5 (by rfl) ?_
    simp only [List.take_succ_cons, List.take_zero, List.drop_succ_cons, List.drop_zero]
    repeat (first | refine F_mv zT0 rfl ?_ | refine F_nil zT1 ?_ | refine F_bsl zT1 (by (try simp only [List.map_cons, List.map_nil]); repeat (first | (apply eL1; · exact zT0) | rfl)) (by (try simp only [go_sem]); try rfl) (by first | rfl | exact HL.ints_flat _ | exact HL.bools_flat _) (by rfl) (by rfl) ?_)
    refine hx_dropN [0, 1, 2, 7, 30, 31, 33, 34] (⟨[(0, .sl nd.length (rowsI (nd.map nl))), (1, .sl nd.length (HL.bools bad)), (2, .int .i64 i), (7, .int .i64 m), (30, .sl nd.length (rowsI (nd.map nl))), (31, .sl nd.length (HL.bools bad)), (33, .ref 0 [] 1 0 1), (34, .int .i64 m)], [(0, .osl 1 1 (HL.ints (nl [i])))], 1⟩ : St) rfl ?_
    refine hx_callG (by (try simp only [List.map_cons, List.map_nil]); repeat (first | (apply eL1; · exact zT0) | rfl)) zT12 zT7 (hc) (by rfl) ?_
    rintro _ rfl
    refine ⟨_, _, _, _, _, zT4, (by simp only [upF, upS, List.append_nil, List.nil_append, List.cons_append]; try rfl), ?_⟩
    by_cases h0 : out = []
    · have hol : out.length = 0 := by rw [h0]; rfl
      repeat (first | refine F_mv zT0 rfl ?_ | refine F_nil zT1 ?_ | refine F_add (by rfl) (by rfl) zT11 ?_ | refine F_lenR (by rfl) ?_ | refine hx_false (by rfl) ?_ | refine hx_seq ?_ | refine hx_region ?_ | refine hx_b ?_ | refine hx_skip ?_ | refine F_gtr (by rfl) (by rfl) zT6 ?_)
      exact hx_lG [0, 1, 2, 7] (m + 1) ⟨by omega, by omega, hstep h0⟩ (by omega) rfl
    · have hol : 0 < out.length := List.length_pos_iff.2 h0
      repeat (first | refine F_mv zT0 rfl ?_ | refine F_nil zT1 ?_ | refine F_lenR (by rfl) ?_ | refine hx_true (by rfl) ?_ | refine hx_seq ?_ | refine hx_region ?_ | refine F_gtr (by rfl) (by rfl) zT6 ?_)
      refine hx_retF (by (try simp only [List.map_cons, List.map_nil]); repeat (first | (apply eL1; · exact zT0) | rfl)) zT5 zT7 ?_
      exact ⟨out, rfl, hres h0⟩
  · obtain rfl : m = nd.length + 2 := by omega
    repeat (first | refine F_mv zT0 rfl ?_ | refine F_nil zT1 ?_ | refine F_add (by rfl) (by rfl) zT11 ?_ | refine F_lenS (by rfl) ?_ | refine hx_exitS (by rfl) ?_ | refine hx_false (by rfl) ?_ | refine hx_seq ?_ | refine hx_region ?_ | refine F_mvnil rfl (by rfl) zT1 ?_ | refine F_leq (by rfl) (by rfl) (by first | exact leT (by omega) | exact leF (by omega) | rfl) ?_)
    refine hx_retF (by (try simp only [List.map_cons, List.map_nil]); repeat (first | (apply eL1; · exact zT0) | rfl)) zT5 zT7 ?_
    exact ⟨[], rfl, .inl ⟨rfl, fun q hq => hnm q (by omega)⟩⟩

/-- What the program's Witness returns. -/
def ProW (nd : List (List Nat)) (bad : List Bool) (k : Int) (out : List Nat) : Prop :=
  (k < 0 ∨ (nd.length : Int) ≤ k) ∧ out = [] ∨ ∃ i : Nat, k = i ∧ i < nd.length ∧ ∀ o, RefW nd bad i o → o = out
theorem ht_witness_all (nd : List (List Nat)) (bad : List Bool) (k : Int) (g : Gr nd bad) : HT Try.prog 24 [Gs (nd.map nl), Bl bad, .int .i64 k] (fun r => ∃ out, r = .osl 1 out.length (HL.ints (nl out)) ∧ out.length ≤ nd.length + 1 ∧ ProW nd bad k out) := by
  by_cases hk : k < 0 ∨ (nd.length : Int) ≤ k
  · exact (ht_witness_no nd bad k g (fun rank hR => by omega)).mono fun r hr => ⟨[], hr, by simp, .inl ⟨hk, rfl⟩⟩
  · obtain ⟨i, rfl⟩ : ∃ i : Nat, k = i := ⟨k.toNat, by omega⟩
    have hi : i < nd.length := by omega
    obtain ⟨rank, hR⟩ := IsRank.exists g
    by_cases h0 : 0 ≤ rank.getD i 0
    · refine (ht_witness_no nd bad i g (fun rank' hR' => ?_)).mono fun r hr => ⟨[], hr, by simp, .inr ⟨i, rfl, hi, fun o ho => ho.none g hR hi h0⟩⟩
      obtain rfl := hR'.unique g hR
      right; right
      simpa using h0
    · exact (ht_witness nd bad rank i g hR hi (by omega)).mono fun r ⟨ds, round, path, total, hr, hT, hP, hl⟩ => ⟨path, hr, (hP.wit hT hl).few, .inr ⟨i, rfl, hi, fun o ho => ho.path g hi hT hP hl⟩⟩

set_option maxHeartbeats 8000000 in
set_option maxRecDepth 100000 in
theorem ht_lawWitnesses (l : List Int) (i : Int) (hl : l.length ≤ 9223372036854775807) :
    HT Try.prog 6 [I l, .int .i64 i] (fun r => r = .bool true) := by
  refine HT.of rfl fc6 (Nat.le_of_ble_eq_true rfl) ?_
  unfold c6
  simp only [I, argSlots, Nat.reduceAdd]
  repeat (first | refine F_mv zT0 rfl ?_ | refine F_nil zT1 ?_ | refine hx_seq ?_ | refine hx_region ?_)
  refine F_call (by (try simp only [List.map_cons, List.map_nil]); repeat (first | (apply eL1; · exact zT0) | rfl)) (by simp (disch := omega) only [thawL, HV.thaw, allIds, aget, nget, if_true, if_false, reduceIte, Nat.reduceEqDiff, stripL, HV.strip, win_intsE, win_boolsE, Nat.mul_one, List.cons_append, List.nil_append, List.append_nil, I, Bl, T3, List.getD_cons_zero, List.getD_cons_succ, HL.ints_strip, HL.bools_strip, trip_strip]; try rfl) (ht_ggraph l hl) ?_
  rintro _ ⟨nd, bad, rfl, hn9, g, hd3⟩
  refine ⟨(by simp only [refFreeL, HV.refFree, noRdL, HV.noRd, HL.ints_noRd, HL.bools_noRd, trip_noRd, Bool.or_true, Bool.true_or, Bool.or_false, Bool.false_or, Bool.and_true, Bool.true_and, Bool.and_self, List.isEmpty_nil, beq_self_eq_true, List.cons_append, List.nil_append]), _, _, _, _, _, zT4, (by decide), (by simp only [upF, upS]; try rfl), ?_⟩
  have hbl := g.bads
  have hsz := g.size
  have hnl : (nd.map nl).length = nd.length := by simp
  have hE : stripL (win (rowsO nd) 0 (nd.length * 1)) = rowsI (nd.map nl) := by rw [rowsO_win _ (by omega), rowsO_strip]
  repeat (first | refine F_mv zT0 rfl ?_ | refine F_nil zT1 ?_ | refine F_ext (by rfl) (by (try simp only [go_sem]); first | omega | decide) zT0 ?_)
  refine hx_dropN [1, 5, 6] (⟨[(1, .int .i64 i), (5, .ref 0 [] 1 0 nd.length), (6, .ref 1 [] 1 0 nd.length)], [(0, .osl 1 nd.length (rowsO nd)), (1, .osl 1 nd.length (HL.bools bad))], 2⟩ : St) rfl ?_
  refine hx_freezeN 0 [1, 5, 6] _ (congrArg (fun c : List HV => (⟨[(1, .int .i64 i), (5, .sl nd.length c), (6, .ref 0 [] 1 0 nd.length)], [(0, .osl 1 nd.length (HL.bools bad))], 1⟩ : St)) hE) ?_
  repeat (first | refine F_mv zT0 rfl ?_ | refine F_nil zT1 ?_ | refine hx_seq ?_ | refine hx_region ?_ | refine hx_block ?_)
  refine hx_loopG [1, 5, 6, 7] (fun k : Int => -1 ≤ k ∧ k ≤ nd.length + 1)
    (fun k => ⟨[(1, .int .i64 i), (5, .sl nd.length (rowsI (nd.map nl))), (6, .ref 0 [] 1 0 nd.length), (7, .int .i64 k)], [(0, .osl 1 nd.length (HL.bools bad))], 1⟩) (fun k => (nd.length + 2 - k).toNat) (-1) ⟨by omega, by omega⟩ rfl ?_
  rintro k ⟨hk1, hk2⟩
  by_cases hkl : k ≤ nd.length
  · repeat (first | refine F_mv zT0 rfl ?_ | refine F_nil zT1 ?_ | refine F_lenS (by rfl) ?_ | refine hx_true (by rfl) ?_ | refine hx_seq ?_ | refine hx_region ?_ | refine hx_block ?_ | refine hx_skip ?_ | refine F_leq (by rfl) (by rfl) (by first | exact leT (by omega) | exact leF (by omega) | rfl) ?_)
    refine F_call (by (try simp only [List.map_cons, List.map_nil]); repeat (first | (apply eL1; · exact zT0) | rfl)) (by simp (disch := omega) only [thawL, Gs, hnl, hbl, HV.thaw, allIds, aget, nget, if_true, if_false, reduceIte, Nat.reduceEqDiff, stripL, HV.strip, win_intsE, win_boolsE, Nat.mul_one, List.cons_append, List.nil_append, List.append_nil, I, Bl, T3, List.getD_cons_zero, List.getD_cons_succ, HL.ints_strip, HL.bools_strip, trip_strip]; try rfl) (ht_witness_all nd bad k g) ?_
    rintro _ ⟨out, rfl, hol, hP⟩
    have hno := nl_len out
    refine ⟨(by simp only [refFreeL, HV.refFree, noRdL, HV.noRd, HL.ints_noRd, HL.bools_noRd, trip_noRd, Bool.or_true, Bool.true_or, Bool.or_false, Bool.false_or, Bool.and_true, Bool.true_and, Bool.and_self, List.isEmpty_nil, beq_self_eq_true, List.cons_append, List.nil_append]), _, _, _, _, _, zT4, (by decide), (by simp only [upF, upS]; try rfl), ?_⟩
    repeat (first | refine F_mv zT0 rfl ?_)
    rcases hP with ⟨hk, rfl⟩ | ⟨j, rfl, hj, hP⟩
    · refine F_call (by (try simp only [List.map_cons, List.map_nil]); repeat (first | (apply eL1; · exact zT0) | rfl)) (by simp (disch := omega) only [thawL, Gs, hnl, hbl, HV.thaw, allIds, aget, nget, if_true, if_false, reduceIte, Nat.reduceEqDiff, stripL, HV.strip, win_intsE, win_boolsE, Nat.mul_one, List.cons_append, List.nil_append, List.append_nil, I, Bl, T3, List.getD_cons_zero, List.getD_cons_succ, HL.ints_strip, HL.bools_strip, trip_strip]; try rfl) (ht_rwitness_no nd bad k g hk) ?_
      rintro _ rfl
      refine ⟨(by simp only [refFreeL, HV.refFree, noRdL, HV.noRd, HL.ints_noRd, HL.bools_noRd, trip_noRd, Bool.or_true, Bool.true_or, Bool.or_false, Bool.false_or, Bool.and_true, Bool.true_and, Bool.and_self, List.isEmpty_nil, beq_self_eq_true, List.cons_append, List.nil_append]), _, _, _, _, _, zT4, (by decide), (by simp only [upF, upS]; try rfl), ?_⟩
      skip
      refine F_call (by (try simp only [List.map_cons, List.map_nil]); repeat (first | (apply eL1; · exact zT0) | rfl)) (by simp (disch := omega) only [thawL, HV.thaw, allIds, aget, nget, if_true, if_false, reduceIte, Nat.reduceEqDiff, stripL, HV.strip, win_intsE, win_boolsE, Nat.mul_one, List.cons_append, List.nil_append, List.append_nil, I, Bl, T3, List.getD_cons_zero, List.getD_cons_succ, HL.ints_strip, HL.bools_strip, trip_strip]; try rfl) (ht_same01 [] [] (by simp) (by simp)) ?_
      rintro _ ⟨b, rfl, hb⟩
      obtain rfl : b = true := hb.2 rfl
      refine ⟨(by simp only [refFreeL, HV.refFree, noRdL, HV.noRd, HL.ints_noRd, HL.bools_noRd, trip_noRd, Bool.or_true, Bool.true_or, Bool.or_false, Bool.false_or, Bool.and_true, Bool.true_and, Bool.and_self, List.isEmpty_nil, beq_self_eq_true, List.cons_append, List.nil_append]), _, _, _, _, _, zT4, (by decide), (by simp only [upF, upS]; try rfl), ?_⟩
      repeat (first | refine F_mv zT0 rfl ?_ | refine F_nil zT1 ?_ | refine F_add (by rfl) (by rfl) zT11 ?_ | refine hx_false (by rfl) ?_ | refine hx_region ?_ | refine hx_b ?_ | refine hx_skip ?_ | refine F_notT (by rfl) ?_)
      exact hx_lG [1, 5, 6, 7] (k + 1) ⟨by omega, by omega⟩ (by omega) rfl
    · refine F_call (by (try simp only [List.map_cons, List.map_nil]); repeat (first | (apply eL1; · exact zT0) | rfl)) (by simp (disch := omega) only [thawL, Gs, hnl, hbl, HV.thaw, allIds, aget, nget, if_true, if_false, reduceIte, Nat.reduceEqDiff, stripL, HV.strip, win_intsE, win_boolsE, Nat.mul_one, List.cons_append, List.nil_append, List.append_nil, I, Bl, T3, List.getD_cons_zero, List.getD_cons_succ, HL.ints_strip, HL.bools_strip, trip_strip]; try rfl) (ht_rwitness nd bad j g hj) ?_
      rintro _ ⟨out2, rfl, hO⟩
      obtain rfl := hP _ hO
      refine ⟨(by simp only [refFreeL, HV.refFree, noRdL, HV.noRd, HL.ints_noRd, HL.bools_noRd, trip_noRd, Bool.or_true, Bool.true_or, Bool.or_false, Bool.false_or, Bool.and_true, Bool.true_and, Bool.and_self, List.isEmpty_nil, beq_self_eq_true, List.cons_append, List.nil_append]), _, _, _, _, _, zT4, (by decide), (by simp only [upF, upS]; try rfl), ?_⟩
      skip
      refine F_call (by (try simp only [List.map_cons, List.map_nil]); repeat (first | (apply eL1; · exact zT0) | rfl)) (by simp (disch := omega) only [thawL, hno, HV.thaw, allIds, aget, nget, if_true, if_false, reduceIte, Nat.reduceEqDiff, stripL, HV.strip, win_intsE, win_boolsE, Nat.mul_one, List.cons_append, List.nil_append, List.append_nil, I, Bl, T3, List.getD_cons_zero, List.getD_cons_succ, HL.ints_strip, HL.bools_strip, trip_strip]; try rfl) (ht_same01 (nl out2) (nl out2) (by omega) (by omega)) ?_
      rintro _ ⟨b, rfl, hb⟩
      obtain rfl : b = true := hb.2 rfl
      refine ⟨(by simp only [refFreeL, HV.refFree, noRdL, HV.noRd, HL.ints_noRd, HL.bools_noRd, trip_noRd, Bool.or_true, Bool.true_or, Bool.or_false, Bool.false_or, Bool.and_true, Bool.true_and, Bool.and_self, List.isEmpty_nil, beq_self_eq_true, List.cons_append, List.nil_append]), _, _, _, _, _, zT4, (by decide), (by simp only [upF, upS]; try rfl), ?_⟩
      repeat (first | refine F_mv zT0 rfl ?_ | refine F_nil zT1 ?_ | refine F_add (by rfl) (by rfl) zT11 ?_ | refine hx_false (by rfl) ?_ | refine hx_region ?_ | refine hx_b ?_ | refine hx_skip ?_ | refine F_notT (by rfl) ?_)
      exact hx_lG [1, 5, 6, 7] ((j : Int) + 1) ⟨by omega, by omega⟩ (by omega) rfl
  · obtain rfl : k = nd.length + 1 := by omega
    have hbl2 : (bad ++ [false]).length = nd.length + 1 := by simp [hbl]
    have hnv : ¬ VG (nd.map nl) (bad ++ [false]) := fun h => by
      have := h.bads
      rw [hbl2, hnl] at this
      omega
    have hw1 : win (HL.bools (bad ++ [false])) 0 nd.length = HL.bools bad := by
      unfold win
      rw [if_neg (by rw [HL.bools_len]; omega), List.drop_zero]
      simp [HL.bools, hbl]
    have hw2 : win (HL.bools (bad ++ [false])) 0 (nd.length + 1) = HL.bools (bad ++ [false]) := win_all _ (by rw [HL.bools_len, hbl2])
    have hw3 : win (HL.bools bad) 0 nd.length = HL.bools bad := win_all _ (by rw [HL.bools_len, hbl])
    have hbad := ht_witness_bad (nd.map nl) (bad ++ [false]) 0 (by omega) (by omega) (fun i => by rw [nl_getD, nl_len]; have := hd3 i; omega) hnv
    simp only [Gs, Bl] at hbad
    rw [hnl, hbl2] at hbad
    refine hx_seq ?_
    refine hx_seq ?_
    refine hx_region ?_
    repeat (first | refine F_mv zT0 rfl ?_ | refine F_nil zT1 ?_ | refine F_lenS (by rfl) ?_ | refine F_leq (by rfl) (by rfl) (by first | exact leT (by omega) | exact leF (by omega) | rfl) ?_)
    refine hx_false (by rfl) ?_
    refine hx_exitS (by rfl) ?_
    refine hx_seq ?_
    refine hx_region ?_
    repeat (first | refine F_mv zT0 rfl ?_)
    refine F_bsl zT1 (by (try simp only [List.map_cons, List.map_nil]); repeat (first | (apply eL1; · exact zT0) | rfl)) (by (try simp only [go_sem]); try rfl) (by first | rfl | exact HL.ints_flat _ | exact HL.bools_flat _) (by rfl) (by rfl) ?_
    refine F_appF zT1 (by rfl) (by rfl) (by first | rfl | exact HL.ints_flat _ | exact HL.bools_flat _) zT0 (by (try simp (disch := omega) only [aget, go_sem, reduceIte, Nat.reduceEqDiff, Nat.reduceAdd, Nat.reduceMul, hw1, hw2, hw3]); try rfl) (by (try simp (disch := omega) only [go_sem, reduceIte, Nat.reduceEqDiff, Nat.reduceAdd, Nat.reduceMul, hw1, hw2, hw3]); try omega) (by first | rfl | exact HL.ints_flat _ | exact HL.bools_flat _) (by omega) (by omega) (by unfold maxLen; omega) (by rfl) (by (try simp (disch := omega) only [go_sem, reduceIte, Nat.reduceEqDiff, Nat.reduceAdd, Nat.reduceMul, hw1, hw2, hw3]); try rfl) (by simp only [HL.freeze, aput, Nat.reduceLT, HV.thaw, thawL, St.M, aget, nget, List.map_cons, List.map_nil, if_true, if_false, reduceIte, Nat.reduceEqDiff, Nat.reduceBEq, beq_self_eq_true, Bool.false_eq_true, stripL, HV.strip, Nat.mul_one, hw1, hw2, hw3, HL.ints_strip, HL.bools_strip, trip_strip]; try rfl) (by simp only [HL.freeze, aput, Nat.reduceLT, HV.thaw, thawL, St.M, aget, nget, List.map_cons, List.map_nil, if_true, if_false, reduceIte, Nat.reduceEqDiff, Nat.reduceBEq, beq_self_eq_true, Bool.false_eq_true, stripL, HV.strip, Nat.mul_one, hw1, hw2, hw3, HL.ints_strip, HL.bools_strip, trip_strip]; try rfl) ?_
    skip
    refine F_call (by (try simp only [List.map_cons, List.map_nil]); repeat (first | (apply eL1; · exact zT0) | rfl)) (by simp (disch := omega) only [thawL, HV.thaw, allIds, aget, nget, if_true, if_false, reduceIte, Nat.reduceEqDiff, stripL, HV.strip, win_intsE, win_boolsE, Nat.mul_one, List.cons_append, List.nil_append, List.append_nil, I, Bl, T3, List.getD_cons_zero, List.getD_cons_succ, HL.ints_strip, HL.bools_strip, trip_strip]; try rfl) (hbad) ?_
    rintro _ rfl
    refine ⟨(by simp only [refFreeL, HV.refFree, noRdL, HV.noRd, HL.ints_noRd, HL.bools_noRd, trip_noRd, Bool.or_true, Bool.true_or, Bool.or_false, Bool.false_or, Bool.and_true, Bool.true_and, Bool.and_self, List.isEmpty_nil, beq_self_eq_true, List.cons_append, List.nil_append]), _, _, _, _, _, zT4, (by decide), (by simp only [upF, upS]; try rfl), ?_⟩
    have hno := fun h => ht_witness_no nd bad i g h
    simp only [Gs, Bl] at hno
    rw [hnl, hbl] at hno
    by_cases hi0 : 0 ≤ i
    · by_cases hin : i < nd.length
      · repeat (first | refine F_mv zT0 rfl ?_ | refine F_yes (by rfl) (by rfl) ?_ | refine F_no (by rfl) (by rfl) ?_ | refine F_lss (by rfl) (by rfl) zT6 ?_ | refine F_eql (by rfl) (by rfl) (by first | exact eqT (by omega) | exact eqF (by omega) | rfl) ?_ | refine F_pickT (by rfl) zT0 ?_ | refine F_lenR (by rfl) ?_ | refine F_lenS (by rfl) ?_ | refine F_geq (by rfl) (by rfl) (by first | exact leT (by omega) | exact leF (by omega) | rfl) ?_)
        refine F_call (by (try simp only [List.map_cons, List.map_nil]); repeat (first | (apply eL1; · exact zT0) | rfl)) (by simp (disch := omega) only [thawL, HV.thaw, allIds, aget, nget, if_true, if_false, reduceIte, Nat.reduceEqDiff, stripL, HV.strip, win_intsE, win_boolsE, Nat.mul_one, List.cons_append, List.nil_append, List.append_nil, I, Bl, T3, List.getD_cons_zero, List.getD_cons_succ, HL.ints_strip, HL.bools_strip, trip_strip]; try rfl) (ht_lives) ?_
        rintro _ rfl
        refine ⟨(by simp only [refFreeL, HV.refFree, noRdL, HV.noRd, HL.ints_noRd, HL.bools_noRd, trip_noRd, Bool.or_true, Bool.true_or, Bool.or_false, Bool.false_or, Bool.and_true, Bool.true_and, Bool.and_self, List.isEmpty_nil, beq_self_eq_true, List.cons_append, List.nil_append]), _, _, _, _, _, zT4, (by decide), (by simp only [upF, upS]; try rfl), ?_⟩
        repeat (first | refine F_mv zT0 rfl ?_ | refine F_nil zT1 ?_ | refine F_pickT (by rfl) zT0 ?_)
        refine hx_retF (by (try simp only [List.map_cons, List.map_nil]); repeat (first | (apply eL1; · exact zT0) | rfl)) zT5 zT7 ?_
        rfl
      · repeat (first | refine F_mv zT0 rfl ?_ | refine F_yes (by rfl) (by rfl) ?_ | refine F_lss (by rfl) (by rfl) zT6 ?_ | refine F_eql (by rfl) (by rfl) (by first | exact eqT (by omega) | exact eqF (by omega) | rfl) ?_ | refine F_pickT (by rfl) zT0 ?_ | refine F_lenR (by rfl) ?_ | refine F_lenS (by rfl) ?_ | refine F_geq (by rfl) (by rfl) (by first | exact leT (by omega) | exact leF (by omega) | rfl) ?_)
        refine F_call (by (try simp only [List.map_cons, List.map_nil]); repeat (first | (apply eL1; · exact zT0) | rfl)) (by simp (disch := omega) only [thawL, HV.thaw, allIds, aget, nget, if_true, if_false, reduceIte, Nat.reduceEqDiff, stripL, HV.strip, win_intsE, win_boolsE, Nat.mul_one, List.cons_append, List.nil_append, List.append_nil, I, Bl, T3, List.getD_cons_zero, List.getD_cons_succ, HL.ints_strip, HL.bools_strip, trip_strip]; try rfl) (hno (fun rank hR => by omega)) ?_
        rintro _ rfl
        refine ⟨(by simp only [refFreeL, HV.refFree, noRdL, HV.noRd, HL.ints_noRd, HL.bools_noRd, trip_noRd, Bool.or_true, Bool.true_or, Bool.or_false, Bool.false_or, Bool.and_true, Bool.true_and, Bool.and_self, List.isEmpty_nil, beq_self_eq_true, List.cons_append, List.nil_append]), _, _, _, _, _, zT4, (by decide), (by simp only [upF, upS]; try rfl), ?_⟩
        repeat (first | refine F_mv zT0 rfl ?_ | refine F_yes (by rfl) (by rfl) ?_ | refine F_eql (by rfl) (by rfl) (by first | exact eqT (by omega) | exact eqF (by omega) | rfl) ?_ | refine F_pickT (by rfl) zT0 ?_ | refine F_pickF (by rfl) zT0 ?_ | refine F_lenR (by rfl) ?_)
        refine F_call (by (try simp only [List.map_cons, List.map_nil]); repeat (first | (apply eL1; · exact zT0) | rfl)) (by simp (disch := omega) only [thawL, HV.thaw, allIds, aget, nget, if_true, if_false, reduceIte, Nat.reduceEqDiff, stripL, HV.strip, win_intsE, win_boolsE, Nat.mul_one, List.cons_append, List.nil_append, List.append_nil, I, Bl, T3, List.getD_cons_zero, List.getD_cons_succ, HL.ints_strip, HL.bools_strip, trip_strip]; try rfl) (ht_lives) ?_
        rintro _ rfl
        refine ⟨(by simp only [refFreeL, HV.refFree, noRdL, HV.noRd, HL.ints_noRd, HL.bools_noRd, trip_noRd, Bool.or_true, Bool.true_or, Bool.or_false, Bool.false_or, Bool.and_true, Bool.true_and, Bool.and_self, List.isEmpty_nil, beq_self_eq_true, List.cons_append, List.nil_append]), _, _, _, _, _, zT4, (by decide), (by simp only [upF, upS]; try rfl), ?_⟩
        repeat (first | refine F_mv zT0 rfl ?_ | refine F_nil zT1 ?_ | refine F_pickT (by rfl) zT0 ?_)
        refine hx_retF (by (try simp only [List.map_cons, List.map_nil]); repeat (first | (apply eL1; · exact zT0) | rfl)) zT5 zT7 ?_
        rfl
    · repeat (first | refine F_mv zT0 rfl ?_ | refine F_yes (by rfl) (by rfl) ?_ | refine F_no (by rfl) (by rfl) ?_ | refine F_eql (by rfl) (by rfl) (by first | exact eqT (by omega) | exact eqF (by omega) | rfl) ?_ | refine F_pickF (by rfl) zT0 ?_ | refine F_lenR (by rfl) ?_ | refine F_geq (by rfl) (by rfl) (by first | exact leT (by omega) | exact leF (by omega) | rfl) ?_)
      refine F_call (by (try simp only [List.map_cons, List.map_nil]); repeat (first | (apply eL1; · exact zT0) | rfl)) (by simp (disch := omega) only [thawL, HV.thaw, allIds, aget, nget, if_true, if_false, reduceIte, Nat.reduceEqDiff, stripL, HV.strip, win_intsE, win_boolsE, Nat.mul_one, List.cons_append, List.nil_append, List.append_nil, I, Bl, T3, List.getD_cons_zero, List.getD_cons_succ, HL.ints_strip, HL.bools_strip, trip_strip]; try rfl) (hno (fun rank hR => by omega)) ?_
      rintro _ rfl
      refine ⟨(by simp only [refFreeL, HV.refFree, noRdL, HV.noRd, HL.ints_noRd, HL.bools_noRd, trip_noRd, Bool.or_true, Bool.true_or, Bool.or_false, Bool.false_or, Bool.and_true, Bool.true_and, Bool.and_self, List.isEmpty_nil, beq_self_eq_true, List.cons_append, List.nil_append]), _, _, _, _, _, zT4, (by decide), (by simp only [upF, upS]; try rfl), ?_⟩
      repeat (first | refine F_mv zT0 rfl ?_ | refine F_yes (by rfl) (by rfl) ?_ | refine F_eql (by rfl) (by rfl) (by first | exact eqT (by omega) | exact eqF (by omega) | rfl) ?_ | refine F_pickT (by rfl) zT0 ?_ | refine F_pickF (by rfl) zT0 ?_ | refine F_lenR (by rfl) ?_)
      refine F_call (by (try simp only [List.map_cons, List.map_nil]); repeat (first | (apply eL1; · exact zT0) | rfl)) (by simp (disch := omega) only [thawL, HV.thaw, allIds, aget, nget, if_true, if_false, reduceIte, Nat.reduceEqDiff, stripL, HV.strip, win_intsE, win_boolsE, Nat.mul_one, List.cons_append, List.nil_append, List.append_nil, I, Bl, T3, List.getD_cons_zero, List.getD_cons_succ, HL.ints_strip, HL.bools_strip, trip_strip]; try rfl) (ht_lives) ?_
      rintro _ rfl
      refine ⟨(by simp only [refFreeL, HV.refFree, noRdL, HV.noRd, HL.ints_noRd, HL.bools_noRd, trip_noRd, Bool.or_true, Bool.true_or, Bool.or_false, Bool.false_or, Bool.and_true, Bool.true_and, Bool.and_self, List.isEmpty_nil, beq_self_eq_true, List.cons_append, List.nil_append]), _, _, _, _, _, zT4, (by decide), (by simp only [upF, upS]; try rfl), ?_⟩
      repeat (first | refine F_mv zT0 rfl ?_ | refine F_nil zT1 ?_ | refine F_pickT (by rfl) zT0 ?_)
      refine hx_retF (by (try simp only [List.map_cons, List.map_nil]); repeat (first | (apply eL1; · exact zT0) | rfl)) zT5 zT7 ?_
      rfl

end Go.Proofs.Ytjlidhijnohkbaa
