/-
  OWN WORK. The law FlowReaches in the value language.
-/
import Derived.Test.YtbddkmhpfbmcmaaCodesFlowReaches
import Derived.Test.YtbddkmhpfbmcmaaFlHt
import Derived.Test.YtbddkmhpfbmcmaaFlPlain
import Derived.Test.YtbddkmhpfbmcmaaFlRefs
import Derived.Test.YtbddkmhpfbmcmaaGrWitQ
import Derived.Test.YtbddkmhpfbmcmaaGrBig
set_option linter.unusedSimpArgs false
set_option linter.unusedVariables false
namespace Go.Proofs.Ytbddkmhpfbmcmaa

/-- An edge that leads up. -/
def Edge.up (e : Edge) : Edge := ⟨if e.t < e.f then e.t else e.f, if e.f < e.t then e.t else e.f, e.c⟩
/-- The graph of the edges with a capacity. -/
def IsReach (n : Nat) (es : List Edge) (nd : List (List Nat)) : Prop :=
  nd.length = n ∧ ∀ i j : Nat, j ∈ nd.getD i [] ↔ ∃ e ∈ es, 0 < e.c ∧ e.f = i ∧ e.t = j
section
variable {n : Nat} {es : List Edge} {nd : List (List Nat)} {bad : List Bool} {rank fl : List Int} {set : List Bool} {v : Int} {path : List Nat}
theorem capS_none {m s t : Int} (hv : VNet m s t es) (set : List Bool) : ∀ k, k ≤ es.length → capS set es k ≤ 0 → ∀ j, j < k → crossB set (es.getD j default) = true → (es.getD j default).c ≤ 0 := by
  intro k
  induction k with
  | zero => intro _ _ j hj; omega
  | succ k ih =>
    intro hk h0 j hj hc
    have h1 := (capS_bd hv set k (by omega)).1
    simp only [capS] at h0
    have hpos : 0 ≤ (es.getD k default).c := by
      obtain ⟨_, _, _, _, _, a6, a7⟩ := hv.all _ (List.getElem_mem (by omega : k < es.length))
      rw [getD_lt es default (by omega : k < es.length)]; exact a6
    by_cases e : j = k
    · subst e; rw [if_pos hc] at h0; omega
    · refine ih (by omega) ?_ j (by omega) hc
      split at h0 <;> omega
theorem capS_all {m s t : Int} (hv : VNet m s t es) (set : List Bool) (h : ∀ e ∈ es, crossB set e = true → e.c ≤ 0) : ∀ k, k ≤ es.length → capS set es k = 0 := by
  intro k
  induction k with
  | zero => intro _; rfl
  | succ k ih =>
    intro hk
    simp only [capS]
    rw [ih (by omega)]
    have hm : es.getD k default ∈ es := by rw [getD_lt es default (by omega : k < es.length)]; exact List.getElem_mem _
    obtain ⟨_, _, _, _, _, a6, a7⟩ := hv.all _ hm
    split
    · rename_i hc; have := h _ hm hc; omega
    · rfl
theorem reach_found (h2 : 2 ≤ n) (hv : VNet (n : Int) ((0 : Nat) : Int) ((n - 1 : Nat) : Int) es) (hup : ∀ e ∈ es, e.f < e.t) (hnd : IsReach n es nd) (hb : ∀ i, i < n → bad.getD i false = decide (i = n - 1)) (hR : IsRank nd bad rank) (h : Found (n : Int) ((0 : Nat) : Int) ((n - 1 : Nat) : Int) es fl set v) : 0 < v ↔ rank.getD 0 0 < 0 := by
  obtain ⟨hl, hm⟩ := hnd
  have hrl := hR.len
  constructor
  · intro h0
    apply Classical.byContradiction
    intro hn
    have hD : IsCut (n : Int) ((0 : Nat) : Int) ((n - 1 : Nat) : Int) (rank.map fun r => decide (0 ≤ r)) := by
      have hg : ∀ i, i < n → ins (rank.map fun r => decide (0 ≤ r)) i = decide (0 ≤ rank.getD i 0) := fun i hi => by
        have h1 : i < rank.length := by omega
        simp [ins, h1]
      refine ⟨by simp; omega, ?_, ?_⟩
      · rw [Int.toNat_natCast, hg 0 (by omega)]; simp only [decide_eq_true_eq]; omega
      · rw [Int.toNat_natCast, hg _ (by omega)]
        simp only [decide_eq_false_iff_not]
        intro h1
        have := (hR.in_ (n - 1) (by omega) h1).1
        rw [hb _ (by omega)] at this
        simp at this
    have h1 := h.le_cap hv hD
    rw [capS_all hv _ (fun e he hc => ?_) _ (Nat.le_refl _)] at h1
    · omega
    · apply Classical.byContradiction
      intro hc0
      have ve := hv.all e he
      obtain ⟨a1, a2, a3, a4, a5, a6, a7⟩ := ve
      rw [cross_eq (by simp; omega) ⟨a1, a2, a3, a4, a5, a6, a7⟩] at hc
      have hg : ∀ i, i < n → ins (rank.map fun r => decide (0 ≤ r)) i = decide (0 ≤ rank.getD i 0) := fun i hi => by
        have h1 : i < rank.length := by omega
        simp [ins, h1]
      rw [hg _ (by omega), hg _ (by omega)] at hc
      simp only [Bool.and_eq_true, decide_eq_true_eq, Bool.not_eq_true', decide_eq_false_iff_not] at hc
      have := (hR.in_ e.f.toNat (by omega) hc.1).2.1 e.t.toNat ((hm _ _).2 ⟨e, he, by omega, by omega, by omega⟩)
      omega
  · intro h0
    apply Classical.byContradiction
    intro hn
    have hcap := h.cap
    have hnone := capS_none hv set es.length (Nat.le_refl _) (by omega)
    have key : ∀ m u : Nat, u + m = n - 1 → ins set u = true → rank.getD u 0 = -1 → False := by
      intro m
      induction m using Nat.strongRecOn with
      | _ m ih =>
        intro u hu hi hr
        rcases hR.out u (by omega) hr with h1 | ⟨j, h1, h3⟩
        · rw [hb u (by omega)] at h1
          have hu2 : u = n - 1 := by simpa using h1
          have := h.cut.snk
          rw [Int.toNat_natCast, ← hu2, hi] at this
          cases this
        · obtain ⟨e, he, k1, k2, k3⟩ := (hm u j).1 h1
          have hlt := hup e he
          obtain ⟨a1, a2, a3, a4, a5, a6, a7⟩ := hv.all e he
          have hj : ins set j = true := by
            cases hjs : ins set j with
            | true => rfl
            | false =>
              obtain ⟨q, hq, hq2⟩ := mem_getD (default : Edge) he
              have hc := hnone q hq (by
                rw [hq2, cross_eq h.cut.len ⟨a1, a2, a3, a4, a5, a6, a7⟩, show e.f.toNat = u by omega, show e.t.toNat = j by omega, hi, hjs]; rfl)
              rw [hq2] at hc
              omega
          exact ih (n - 1 - j) (by omega) j (by omega) hj h3
    have hs := h.cut.src
    rw [Int.toNat_natCast] at hs
    have h3 := (hR.low 0 (by omega)).1
    exact key (n - 1) 0 (by omega) hs (by omega)
theorem reach_last (hup : ∀ e ∈ es, e.f < e.t) (hnd : IsReach n es nd) (hb : ∀ i, i < n → bad.getD i false = decide (i = n - 1)) (w : IsWit nd bad 0 path) : path.getD (path.length - 1) 0 = n - 1 := by
  obtain ⟨hl, hm⟩ := hnd
  have hp := w.pos
  have inc : ∀ k, k < path.length → ∀ q, q < k → path.getD q 0 < path.getD k 0 := by
    intro k
    induction k with
    | zero => intro _ q hq; omega
    | succ k ih =>
      intro hk q hq
      obtain ⟨e, he, k1, k2, k3⟩ := (hm _ _).1 (w.edge k hk)
      have := hup e he
      by_cases e : q = k
      · subst e; omega
      · have := ih (by omega) q (by omega); omega
  have hlast := w.lt (path.length - 1) (by omega)
  rcases (w.ends (path.length - 1) (by omega)).2 (by omega) with h | h
  · rw [hb _ (by omega)] at h
    simpa using h
  · obtain ⟨q, hq, e⟩ := mem_getD 0 h
    rw [List.length_take] at hq
    rw [List.getD_eq_getElem?_getD, List.getElem?_take_of_lt (by omega), ← List.getD_eq_getElem?_getD] at e
    have := inc (path.length - 1) (by omega) q (by omega)
    omega
theorem net_up {s t : Int} (hv : VNet (n : Int) s t es) (h2 : 2 ≤ n) : VNet (n : Int) ((0 : Nat) : Int) ((n - 1 : Nat) : Int) (es.map Edge.up) := by
  have := hv.n258
  refine ⟨by omega, by omega, by omega, by omega, by omega, by omega, by omega, by simpa using hv.len, fun e he => ?_⟩
  obtain ⟨a, h1, rfl⟩ := List.mem_map.1 he
  obtain ⟨a1, a2, a3, a4, a5, a6, a7⟩ := hv.all a h1
  unfold Edge.up VEdge
  dsimp only
  split <;> split <;> exact ⟨by omega, by omega, by omega, by omega, by omega, a6, a7⟩
theorem up_lt {s t : Int} (hv : VNet (n : Int) s t es) : ∀ e ∈ es.map Edge.up, e.f < e.t := by
  intro e he
  obtain ⟨a, h1, rfl⟩ := List.mem_map.1 he
  obtain ⟨a1, a2, a3, a4, a5, a6, a7⟩ := hv.all a h1
  unfold Edge.up
  dsimp only
  split <;> split <;> omega
theorem reach_put (h : IsReach n es nd) {e : Edge} {p q : Nat} (hp : p < n) (h1 : e.f = p) (h2 : e.t = q) (h3 : 0 < e.c) : IsReach n (es ++ [e]) (nd.set p (putN (nd.getD p []) q)) := by
  obtain ⟨hl, hm⟩ := h
  refine ⟨by simpa using hl, fun i j => ?_⟩
  rw [getD_set _ _ _ _ _ (by omega)]
  by_cases hpi : p = i
  · subst hpi
    rw [if_pos rfl, putN_mem, hm]
    constructor
    · rintro (rfl | ⟨a, ha, hb⟩)
      · exact ⟨e, by simp, h3, h1, h2⟩
      · exact ⟨a, by simp [ha], hb⟩
    · rintro ⟨a, ha, hb⟩
      rcases List.mem_append.1 ha with ha | ha
      · exact .inr ⟨a, ha, hb⟩
      · simp at ha; subst ha; exact .inl (by omega)
  · rw [if_neg hpi, hm]
    constructor
    · rintro ⟨a, ha, hb⟩; exact ⟨a, by simp [ha], hb⟩
    · rintro ⟨a, ha, hb⟩
      rcases List.mem_append.1 ha with ha | ha
      · exact ⟨a, ha, hb⟩
      · simp at ha; subst ha; omega
theorem reach_skip (h : IsReach n es nd) {e : Edge} (h3 : e.c ≤ 0) : IsReach n (es ++ [e]) nd := by
  obtain ⟨hl, hm⟩ := h
  refine ⟨hl, fun i j => ?_⟩
  rw [hm]
  constructor
  · rintro ⟨a, ha, hb⟩; exact ⟨a, by simp [ha], hb⟩
  · rintro ⟨a, ha, hb⟩
    rcases List.mem_append.1 ha with ha | ha
    · exact ⟨a, ha, hb⟩
    · simp at ha; subst ha; omega
/-- Rows that grow. -/
def RowsUp (k : Nat) (nd : List (List Nat)) : Prop := ∀ i, (nd.getD i []).Pairwise (· < ·) ∧ (nd.getD i []).length ≤ k
theorem RowsUp.put {k p q : Nat} (h : RowsUp k nd) (hp : p < nd.length) : RowsUp (k + 1) (nd.set p (putN (nd.getD p []) q)) := fun i => by
  rw [getD_set _ _ _ _ _ hp]
  split
  · have := putN_len (nd.getD p []) q
    have := (h p).2
    exact ⟨putN_sorted _ (h p).1, by omega⟩
  · have := (h i).2
    exact ⟨(h i).1, by omega⟩
theorem RowsUp.skip {k : Nat} (h : RowsUp k nd) : RowsUp (k + 1) nd := fun i => by have := (h i).2; exact ⟨(h i).1, by omega⟩
theorem RowsUp.zero_ (n : Nat) : RowsUp 0 (List.replicate n []) := fun i => by
  have : (List.replicate n ([] : List Nat)).getD i [] = [] := by
    rw [List.getD_eq_getElem?_getD, List.getElem?_replicate]
    split <;> rfl
  rw [this]; exact ⟨.nil, by simp⟩
theorem reach_zero (n : Nat) : IsReach n [] (List.replicate n []) := ⟨by simp, fun i j => by
  have : (List.replicate n ([] : List Nat)).getD i [] = [] := by
    rw [List.getD_eq_getElem?_getD, List.getElem?_replicate]
    split <;> rfl
  rw [this]; simp⟩
theorem reach_gr (hn : n ≤ 256) (h : IsReach n es nd) {k : Nat} (hr : RowsUp k nd) (hv : ∀ e ∈ es, e.t < n) (hb : bad.length = n) : Gr nd bad := by
  obtain ⟨hl, hm⟩ := h
  refine ⟨by omega, by omega, fun i j hj => ?_, fun i => (hr i).1⟩
  obtain ⟨e, he, _, _, h3⟩ := (hm i j).1 hj
  have := hv e he
  omega
end

open Go.RowKit Go.SL Go.HL

set_option maxHeartbeats 8000000 in
set_option maxRecDepth 100000 in
theorem ht_lawReaches (l : List Int) (a1 a2 : Int) (hl : l.length ≤ 9223372036854775807) :
    HT Try.prog 10 [I l, .int .i64 a1, .int .i64 a2] (fun r => r = .bool true) := by
  refine HT.of rfl fc10 (Nat.le_of_ble_eq_true rfl) ?_
  unfold c10
  simp only [I, argSlots, Nat.reduceAdd]
  repeat (first | refine F_mv (by first | exact eI rfl | exact eB rfl | exact eR rfl | exact eS rfl | exact eP rfl | exact eT rfl | exact eA rfl | exact eN rfl | exact eQ rfl | exact eF rfl | exact eD rfl) rfl ?_ | refine F_nil (by (try simp only [go_sem, reduceIte, Nat.reduceEqDiff, Nat.reduceAdd, Nat.reduceMul]); try rfl) ?_ | refine hx_seq ?_ | refine hx_region ?_)
  refine F_call (by (try simp only [List.map_cons, List.map_nil]); repeat (first | (apply eL1; · exact (by first | exact eI rfl | exact eB rfl | exact eR rfl | exact eS rfl | exact eP rfl | exact eT rfl | exact eA rfl | exact eN rfl | exact eQ rfl | exact eF rfl | exact eD rfl)) | rfl)) (by simp (disch := omega) only [thawL, HV.thaw, allIds, aget, nget, if_true, if_false, reduceIte, Nat.reduceEqDiff, stripL, HV.strip, win_intsE, win_boolsE, win_edgesE, Nat.mul_one, List.cons_append, List.nil_append, List.append_nil, I, Bl, T3, Es, List.getD_cons_zero, List.getD_cons_succ, HL.ints_strip, HL.bools_strip, trip_strip, edges_strip]; try rfl) (ht_mod a1 40 (by omega) (by omega)) ?_
  rintro _ rfl
  refine ⟨(by simp only [refFreeL, HV.refFree, noRdL, HV.noRd, HL.ints_noRd, HL.bools_noRd, trip_noRd, edges_noRd, Bool.or_true, Bool.true_or, Bool.or_false, Bool.false_or, Bool.and_true, Bool.true_and, Bool.and_self, List.isEmpty_nil, beq_self_eq_true, List.cons_append, List.nil_append]), _, _, _, _, _, (by simp only [unpack, unpackL, List.append_nil, List.nil_append, List.cons_append, stride, Nat.reduceAdd, Nat.reduceMul, Nat.zero_add]; try rfl), (by decide), (by simp only [upF, upS]; try rfl), ?_⟩
  repeat (first | refine F_mv (by first | exact eI rfl | exact eB rfl | exact eR rfl | exact eS rfl | exact eP rfl | exact eT rfl | exact eA rfl | exact eN rfl | exact eQ rfl | exact eF rfl | exact eD rfl) rfl ?_ | refine F_add (by rfl) (by rfl) (by (try simp (disch := omega) only [go_sem, Int.reduceAdd, Int.reduceSub, Int.reduceMul]); try rfl) ?_)
  refine F_call (by (try simp only [List.map_cons, List.map_nil]); repeat (first | (apply eL1; · exact (by first | exact eI rfl | exact eB rfl | exact eR rfl | exact eS rfl | exact eP rfl | exact eT rfl | exact eA rfl | exact eN rfl | exact eQ rfl | exact eF rfl | exact eD rfl)) | rfl)) (by simp (disch := omega) only [thawL, HV.thaw, allIds, aget, nget, if_true, if_false, reduceIte, Nat.reduceEqDiff, stripL, HV.strip, win_intsE, win_boolsE, win_edgesE, Nat.mul_one, List.cons_append, List.nil_append, List.append_nil, I, Bl, T3, Es, List.getD_cons_zero, List.getD_cons_succ, HL.ints_strip, HL.bools_strip, trip_strip, edges_strip]; try rfl) (ht_mod a2 60 (by omega) (by omega)) ?_
  rintro _ rfl
  refine ⟨(by simp only [refFreeL, HV.refFree, noRdL, HV.noRd, HL.ints_noRd, HL.bools_noRd, trip_noRd, edges_noRd, Bool.or_true, Bool.true_or, Bool.or_false, Bool.false_or, Bool.and_true, Bool.true_and, Bool.and_self, List.isEmpty_nil, beq_self_eq_true, List.cons_append, List.nil_append]), _, _, _, _, _, (by simp only [unpack, unpackL, List.append_nil, List.nil_append, List.cons_append, stride, Nat.reduceAdd, Nat.reduceMul, Nat.zero_add]; try rfl), (by decide), (by simp only [upF, upS]; try rfl), ?_⟩
  skip
  obtain ⟨m, hm⟩ := Int.eq_ofNat_of_zero_le (by omega : 0 ≤ a2 % 60)
  obtain ⟨n, hn⟩ := Int.eq_ofNat_of_zero_le (by omega : 0 ≤ 2 + a1 % 40)
  have hn2 : 2 ≤ n ∧ n ≤ 41 := by omega
  obtain ⟨hn2, hn41⟩ := hn2
  have hm60 : m < 60 := by omega
  rw [hm, hn]
  clear hm hn
  refine F_call (by (try simp only [List.map_cons, List.map_nil]); repeat (first | (apply eL1; · exact (by first | exact eI rfl | exact eB rfl | exact eR rfl | exact eS rfl | exact eP rfl | exact eT rfl | exact eA rfl | exact eN rfl | exact eQ rfl | exact eF rfl | exact eD rfl)) | rfl)) (by simp (disch := omega) only [thawL, HV.thaw, allIds, aget, nget, if_true, if_false, reduceIte, Nat.reduceEqDiff, stripL, HV.strip, win_intsE, win_boolsE, win_edgesE, Nat.mul_one, List.cons_append, List.nil_append, List.append_nil, I, Bl, T3, Es, List.getD_cons_zero, List.getD_cons_succ, HL.ints_strip, HL.bools_strip, trip_strip, edges_strip]; try rfl) (ht_big l n m hl (by omega) (by omega) (by omega)) ?_
  rintro _ ⟨es, s, t, rfl, hv, rfl⟩
  refine ⟨(by simp only [refFreeL, HV.refFree, noRdL, HV.noRd, HL.ints_noRd, HL.bools_noRd, trip_noRd, edges_noRd, Bool.or_true, Bool.true_or, Bool.or_false, Bool.false_or, Bool.and_true, Bool.true_and, Bool.and_self, List.isEmpty_nil, beq_self_eq_true, List.cons_append, List.nil_append]), _, _, _, _, _, (by simp only [unpack, unpackL, List.append_nil, List.nil_append, List.cons_append, stride, Nat.reduceAdd, Nat.reduceMul, Nat.zero_add]; try rfl), (by decide), (by simp only [upF, upS]; try rfl), ?_⟩
  have hup := up_lt hv
  have hvu := net_up hv hn2
  repeat (first | refine F_mv (by first | exact eI rfl | exact eB rfl | exact eR rfl | exact eS rfl | exact eP rfl | exact eT rfl | exact eA rfl | exact eN rfl | exact eQ rfl | exact eF rfl | exact eD rfl) rfl ?_ | refine F_nil (by (try simp only [go_sem, reduceIte, Nat.reduceEqDiff, Nat.reduceAdd, Nat.reduceMul]); try rfl) ?_ | refine F_ext (by rfl) (by (try simp only [go_sem]); first | omega | decide) (by first | exact eI rfl | exact eB rfl | exact eR rfl | exact eS rfl | exact eP rfl | exact eT rfl | exact eA rfl | exact eN rfl | exact eQ rfl | exact eF rfl | exact eD rfl) ?_ | refine hx_seq ?_ | refine hx_region ?_ | refine hx_block ?_ | refine F_mksl (by (try simp only [go_sem, reduceIte, Nat.reduceEqDiff, Nat.reduceAdd, Nat.reduceMul]); try rfl) (by rfl) (by omega) (by (try simp only [go_sem]); try rfl) (by (try simp only [go_sem]); try rfl) ?_)
  refine hx_loopG [7, 8, 11, 12] (fun s : Nat × List (List Nat) => s.1 ≤ es.length ∧ IsReach n ((es.map Edge.up).take s.1) s.2 ∧ RowsUp s.1 s.2)
    (fun s => ⟨[(7, .int .i64 n), (8, .ref 0 [] 3 0 es.length), (11, .ref 1 [] 1 0 n), (12, .int .i64 s.1)], [(0, .osl 3 es.length (edges ((es.map Edge.up).take s.1 ++ es.drop s.1))), (1, .osl 1 n (rowsO s.2))], 2⟩)
    (fun s => es.length - s.1) (0, List.replicate n []) ⟨by simp, by rw [List.take_zero]; exact reach_zero n, RowsUp.zero_ n⟩ rfl ?_
  rintro ⟨i, nd⟩ ⟨hi, hr, hru⟩
  simp only at hi hr hru ⊢
  have hnd := hr.1
  by_cases hil : i < es.length
  · have hll : ((es.map Edge.up).take i ++ es.drop i).length = es.length := by simp; omega
    have hd : es.drop i = es[i] :: es.drop (i + 1) := List.drop_eq_getElem_cons hil
    have hg : ((es.map Edge.up).take i ++ es.drop i).getD i default = es[i] := by
      rw [hd, List.getD_eq_getElem?_getD, List.getElem?_append_right (by simp; omega)]
      simp [Nat.min_eq_left hi, hil]
    have htk : (es.map Edge.up).take (i + 1) = (es.map Edge.up).take i ++ [es[i].up] := by
      rw [List.take_succ_eq_append_getElem (by simpa using hil), List.getElem_map]
    have hnext : ((es.map Edge.up).take i ++ es.drop i).set i es[i].up = (es.map Edge.up).take (i + 1) ++ es.drop (i + 1) := by
      rw [hd, List.set_append_right _ _ (by simp; omega), htk]
      simp [Nat.min_eq_left hi]
      rw [hd, List.set_cons_zero]
    have hmem := List.getElem_mem hil
    obtain ⟨a1, a2, a3, a4, a5, a6, a7⟩ := hv.all _ hmem
    rw [htk] at hnext
    generalize (es.map Edge.up).take i ++ es.drop i = cur at hll hg hnext ⊢
    generalize hee : es[i] = e at *
    obtain ⟨p, hp⟩ : ∃ p : Nat, (p : Int) = if e.t < e.f then e.t else e.f := ⟨(if e.t < e.f then e.t else e.f).toNat, by split <;> omega⟩
    obtain ⟨q, hq⟩ : ∃ q : Nat, (q : Int) = if e.f < e.t then e.t else e.f := ⟨(if e.f < e.t then e.t else e.f).toNat, by split <;> omega⟩
    have hpn : p < n := by split at hp <;> omega
    have hqn : q < n := by split at hq <;> omega
    have hue : e.up = ⟨p, q, e.c⟩ := by unfold Edge.up; rw [← hp, ← hq]
    rw [hue] at hnext htk
    have hg1 : (cur.set i ⟨p, e.t, e.c⟩).getD i default = ⟨p, e.t, e.c⟩ := by
      have h1 : i < cur.length := by omega
      simp [h1]
    have hs2 : (cur.set i ⟨p, e.t, e.c⟩).set i ⟨p, q, e.c⟩ = (es.map Edge.up).take (i + 1) ++ es.drop (i + 1) := by rw [List.set_set, hnext, ← htk]
    rw [← htk] at hnext
    have hg2 : ((es.map Edge.up).take (i + 1) ++ es.drop (i + 1)).getD i default = ⟨p, q, e.c⟩ := by
      have h1 : i < cur.length := by omega
      rw [← hnext]; simp [h1]
    have hl2 : ((es.map Edge.up).take (i + 1) ++ es.drop (i + 1)).length = es.length := by rw [← hnext]; simpa using hll
    have hpq : (if e.t < e.f then e.t else e.f) = (p : Int) := hp.symm
    have hqq : (if e.f < e.t then e.t else e.f) = (q : Int) := hq.symm
    clear hp hq hnext
    repeat (first | refine F_mv (by first | exact eI rfl | exact eB rfl | exact eR rfl | exact eS rfl | exact eP rfl | exact eT rfl | exact eA rfl | exact eN rfl | exact eQ rfl | exact eF rfl | exact eD rfl) rfl ?_ | refine F_nil (by (try simp only [go_sem, reduceIte, Nat.reduceEqDiff, Nat.reduceAdd, Nat.reduceMul]); try rfl) ?_ | refine F_lss (by rfl) (by rfl) (by first | exact ltT (by omega) | exact ltF (by omega) | rfl) ?_ | refine F_lenR (by rfl) ?_ | refine hx_true (by rfl) ?_ | refine hx_seq ?_ | refine hx_region ?_ | refine hx_block ?_ | refine hx_skip ?_)
    refine hx_draw (by kernel_rfl) (by kernel_rfl) (fun _ _ _ => False) ?_
    by_cases hc : 0 < e.c
    · have hr2 := reach_put hr hpn (e := ⟨p, q, e.c⟩) rfl rfl hc
      have hru2 := hru.put (p := p) (q := q) (by omega)
      have hrow := (hru p)
      obtain ⟨row, hrw⟩ : ∃ row, nd.getD p [] = row := ⟨_, rfl⟩
      rw [hrw] at hr2 hru2 hrow
      rw [← htk] at hr2
      have hro : (rowsO nd).set p (.osl 1 (putN row q).length (HL.ints (nl (putN row q)))) = rowsO (nd.set p (putN row q)) := by simp [rowsO, List.map_set]
      have hget : (rowsO nd).getD p .dead = .osl 1 row.length (HL.ints (nl row)) := by rw [rowsO_get nd (by omega), hrw]
      have hnr := nl_len row
      generalize hnx : (es.map Edge.up).take (i + 1) ++ es.drop (i + 1) = nxt at hs2 hg2 hl2
      repeat (first | refine F_mv (by first | exact eI rfl | exact eB rfl | exact eR rfl | exact eS rfl | exact eP rfl | exact eT rfl | exact eA rfl | exact eN rfl | exact eQ rfl | exact eF rfl | exact eD rfl) rfl ?_ | refine F_iaR (by rfl) (by rfl) (by omega) (by (try simp only [go_sem, reduceIte, Nat.reduceEqDiff, Nat.reduceAdd, Nat.reduceMul]); try rfl) ?_ | refine F_ldR (by rfl) (by first | exact eO rfl | exact eW rfl) (by (try simp (disch := omega) only [go_sem, reduceIte, Nat.reduceEqDiff, Nat.reduceAdd, Nat.reduceMul, hg, hg1, hpq, hqq, hs2, hg2]); try rfl) (by (try simp only [go_sem]); first | omega | decide) (by (try simp (disch := omega) only [go_sem, hg, hg1, hpq, hqq, hs2, hg2]); try rfl) (by first | exact eI rfl | exact eB rfl | exact eR rfl | exact eS rfl | exact eP rfl | exact eT rfl | exact eA rfl | exact eN rfl | exact eQ rfl | exact eF rfl | exact eD rfl) ?_ | refine F_nil (by (try simp only [go_sem, reduceIte, Nat.reduceEqDiff, Nat.reduceAdd, Nat.reduceMul]); try rfl) ?_ | refine hx_true (by rfl) ?_ | refine hx_seq ?_ | refine hx_region ?_ | refine F_gtr (by rfl) (by rfl) (by first | exact ltT (by omega) | exact ltF (by omega) | rfl) ?_ | refine F_faR (by rfl) (by rfl) ?_ | refine F_st (by rfl) (by first | exact eI rfl | exact eB rfl | exact eR rfl | exact eS rfl | exact eP rfl | exact eT rfl | exact eA rfl | exact eN rfl | exact eQ rfl | exact eF rfl | exact eD rfl) (by (try simp only [go_sem]); try rfl) (by first | rfl | exact HL.ints_flat _ | exact HL.bools_flat _ | exact edges_flat _) (by rfl) (by decide) (by first | exact eO rfl | exact eW rfl) (by (try simp only [go_sem]); try rfl) (by (try simp only [go_sem]); first | omega | decide) (by (try simp (disch := omega) only [go_sem, hg, hg1, hpq, hqq, hs2, hg2]); try rfl) (by (try simp only [go_sem]); try rfl) ?_ | refine F_mm (by rfl) (by rfl) (by (try simp only [go_sem, reduceIte, hg, hg1, hpq, hqq, hs2, hg2]); try rfl) ?_)
      refine hx_draw (by kernel_rfl) (by kernel_rfl) (fun _ _ r => r = .osl 1 (putN row q).length (HL.ints (nl (putN row q)))) ?_
      repeat (first | refine F_mv (by first | exact eI rfl | exact eB rfl | exact eR rfl | exact eS rfl | exact eP rfl | exact eT rfl | exact eA rfl | exact eN rfl | exact eQ rfl | exact eF rfl | exact eD rfl) rfl ?_ | refine F_iaR (by rfl) (by rfl) (by omega) (by (try simp only [go_sem, reduceIte, Nat.reduceEqDiff, Nat.reduceAdd, Nat.reduceMul]); try rfl) ?_ | refine F_ldR (by rfl) (by first | exact eO rfl | exact eW rfl) (by (try simp (disch := omega) only [go_sem, reduceIte, Nat.reduceEqDiff, Nat.reduceAdd, Nat.reduceMul, hg2, hrw]); try rfl) (by (try simp only [go_sem]); first | omega | decide) (by (try simp (disch := omega) only [go_sem, hg2, hrw]); try rfl) (by first | exact eI rfl | exact eB rfl | exact eR rfl | exact eS rfl | exact eP rfl | exact eT rfl | exact eA rfl | exact eN rfl | exact eQ rfl | exact eF rfl | exact eD rfl) ?_ | refine F_faR (by rfl) (by rfl) ?_)
      refine F_callD (by (try simp only [List.map_cons, List.map_nil]); repeat (first | (apply eL1; · exact (by first | exact eI rfl | exact eB rfl | exact eR rfl | exact eS rfl | exact eP rfl | exact eT rfl | exact eA rfl | exact eN rfl | exact eQ rfl | exact eF rfl | exact eD rfl)) | rfl)) (by simp (disch := omega) only [thawL, nl_len, hget, HV.thaw, allIds, aget, nget, if_true, if_false, reduceIte, Nat.reduceEqDiff, stripL, HV.strip, win_intsE, win_boolsE, win_edgesE, Nat.mul_one, List.cons_append, List.nil_append, List.append_nil, I, Bl, T3, Es, List.getD_cons_zero, List.getD_cons_succ, HL.ints_strip, HL.bools_strip, trip_strip, edges_strip]; try rfl) (ht_gput row q (by omega) hrow.1) ⟨_, rfl, by unfold HV.deep; exact ints_deep _⟩ ?_
      rintro _ rfl -
      refine ⟨(by simp only [refFreeL, HV.refFree, noRdL, HV.noRd, HL.ints_noRd, HL.bools_noRd, trip_noRd, edges_noRd, Bool.or_true, Bool.true_or, Bool.or_false, Bool.false_or, Bool.and_true, Bool.true_and, Bool.and_self, List.isEmpty_nil, beq_self_eq_true, List.cons_append, List.nil_append]), _, _, _, _, _, (by simp only [unpack, unpackL, List.append_nil, List.nil_append, List.cons_append, stride, Nat.reduceAdd, Nat.reduceMul, Nat.zero_add]; try rfl), (by decide), (by simp only [upF, upS]; try rfl), ?_⟩
      repeat (first | refine F_mv (by first | exact eI rfl | exact eB rfl | exact eR rfl | exact eS rfl | exact eP rfl | exact eT rfl | exact eA rfl | exact eN rfl | exact eQ rfl | exact eF rfl | exact eD rfl) rfl ?_ | refine F_iaR (by rfl) (by rfl) (by omega) (by (try simp only [go_sem, reduceIte, Nat.reduceEqDiff, Nat.reduceAdd, Nat.reduceMul]); try rfl) ?_ | refine F_nil (by (try simp only [go_sem, reduceIte, Nat.reduceEqDiff, Nat.reduceAdd, Nat.reduceMul]); try rfl) ?_ | refine F_add (by rfl) (by rfl) (by (try simp (disch := omega) only [go_sem, Int.reduceAdd, Int.reduceSub, Int.reduceMul, hg2, hrw, hro]); try rfl) ?_ | refine hx_region ?_ | refine hx_b ?_ | refine F_stG (by rfl) (by first | exact eI rfl | exact eB rfl | exact eR rfl | exact eS rfl | exact eP rfl | exact eT rfl | exact eA rfl | exact eN rfl | exact eQ rfl | exact eF rfl | exact eD rfl) (by (try simp only [go_sem]); try rfl) (by simp only [takeL, takeC, aget, Lk.upd, if_true, if_false, reduceIte, Nat.reduceEqDiff, List.append_nil, List.nil_append, List.cons_append]; try rfl) (by first | trivial | (refine ⟨?_, ?_⟩ <;> trivial)) (by rfl) (by first | exact Nat.zero_lt_one | decide) (by rfl) (by simp only [Lk.upd, aget, if_true, if_false, reduceIte, Nat.reduceEqDiff, reduceCtorEq]; try rfl) (by (try simp (disch := omega) only [go_sem, reduceIte, Nat.reduceEqDiff, Nat.reduceAdd, Nat.reduceMul, hg2, hrw, hro]); try rfl) (by (try simp only [go_sem]); first | omega | decide) (by (try simp (disch := omega) only [go_sem, hg2, hrw, hro]); try rfl) (by (try simp only [go_sem]); try rfl) (by simp only [upF, List.cons_append, List.nil_append, List.append_nil, List.map_cons, List.map_nil, HV.kill, killL, List.length_nil, List.length_cons, Nat.reduceEqDiff, Nat.reduceLT, Nat.reduceAdd, if_true, if_false, reduceIte, and_true, true_and, and_false, false_and, and_self, reduceCtorEq, Nat.lt_irrefl]; try rfl) ?_)
      subst hnx
      exact hx_lG [7, 8, 11, 12] (i + 1, nd.set p (putN row q)) ⟨hil, hr2, hru2⟩ (by simp only; omega) rfl
    · have hr2 := reach_skip hr (e := ⟨p, q, e.c⟩) (by simp only; omega)
      rw [← htk] at hr2
      have hru2 := hru.skip
      repeat (first | refine F_mv (by first | exact eI rfl | exact eB rfl | exact eR rfl | exact eS rfl | exact eP rfl | exact eT rfl | exact eA rfl | exact eN rfl | exact eQ rfl | exact eF rfl | exact eD rfl) rfl ?_ | refine F_iaR (by rfl) (by rfl) (by omega) (by (try simp only [go_sem, reduceIte, Nat.reduceEqDiff, Nat.reduceAdd, Nat.reduceMul]); try rfl) ?_ | refine F_ldR (by rfl) (by first | exact eO rfl | exact eW rfl) (by (try simp (disch := omega) only [go_sem, reduceIte, Nat.reduceEqDiff, Nat.reduceAdd, Nat.reduceMul, hg, hg1, hpq, hqq, hs2, hg2]); try rfl) (by (try simp only [go_sem]); first | omega | decide) (by (try simp (disch := omega) only [go_sem, hg, hg1, hpq, hqq, hs2, hg2]); try rfl) (by first | exact eI rfl | exact eB rfl | exact eR rfl | exact eS rfl | exact eP rfl | exact eT rfl | exact eA rfl | exact eN rfl | exact eQ rfl | exact eF rfl | exact eD rfl) ?_ | refine F_nil (by (try simp only [go_sem, reduceIte, Nat.reduceEqDiff, Nat.reduceAdd, Nat.reduceMul]); try rfl) ?_ | refine F_add (by rfl) (by rfl) (by (try simp (disch := omega) only [go_sem, Int.reduceAdd, Int.reduceSub, Int.reduceMul, hg, hg1, hpq, hqq, hs2, hg2]); try rfl) ?_ | refine hx_false (by rfl) ?_ | refine hx_seq ?_ | refine hx_region ?_ | refine hx_b ?_ | refine hx_skip ?_ | refine F_gtr (by rfl) (by rfl) (by first | exact ltT (by omega) | exact ltF (by omega) | rfl) ?_ | refine F_faR (by rfl) (by rfl) ?_ | refine F_st (by rfl) (by first | exact eI rfl | exact eB rfl | exact eR rfl | exact eS rfl | exact eP rfl | exact eT rfl | exact eA rfl | exact eN rfl | exact eQ rfl | exact eF rfl | exact eD rfl) (by (try simp only [go_sem]); try rfl) (by first | rfl | exact HL.ints_flat _ | exact HL.bools_flat _ | exact edges_flat _) (by rfl) (by decide) (by first | exact eO rfl | exact eW rfl) (by (try simp only [go_sem]); try rfl) (by (try simp only [go_sem]); first | omega | decide) (by (try simp (disch := omega) only [go_sem, hg, hg1, hpq, hqq, hs2, hg2]); try rfl) (by (try simp only [go_sem]); try rfl) ?_ | refine F_mm (by rfl) (by rfl) (by (try simp only [go_sem, reduceIte, hg, hg1, hpq, hqq, hs2, hg2]); try rfl) ?_)
      exact hx_lG [7, 8, 11, 12] (i + 1, nd) ⟨hil, hr2, hru2⟩ (by simp only; omega) rfl
  · obtain rfl : i = es.length := by omega
    rw [List.drop_length, List.append_nil, List.take_of_length_le (by simp)] at *
    have hul : (es.map Edge.up).length = es.length := by simp
    generalize es.map Edge.up = eu at *
    have hrep : (List.replicate n false).length = n := by simp
    have hn1' : (n : Int) - 1 = ((n - 1 : Nat) : Int) := by omega
    obtain ⟨bad, hbad⟩ : ∃ bad, (List.replicate n false).set (n - 1) true = bad := ⟨_, rfl⟩
    have hbl : bad.length = n := by rw [← hbad]; simp
    have hb : ∀ i, i < n → bad.getD i false = decide (i = n - 1) := fun i hi => by
      rw [← hbad, getD_set _ _ _ _ _ (by simp; omega)]
      by_cases h : n - 1 = i
      · subst h; simp
      · rw [if_neg h]
        have : ¬ i = n - 1 := fun e => h e.symm
        simp [hi, this]
    have g : Gr nd bad := reach_gr (by omega) hr hru (fun e he => (hvu.all e he).2.2.2.1) hbl
    repeat (first | refine F_mv (by first | exact eI rfl | exact eB rfl | exact eR rfl | exact eS rfl | exact eP rfl | exact eT rfl | exact eA rfl | exact eN rfl | exact eQ rfl | exact eF rfl | exact eD rfl) rfl ?_ | refine F_iaR (by rfl) (by rfl) (by omega) (by (try simp only [go_sem, reduceIte, Nat.reduceEqDiff, Nat.reduceAdd, Nat.reduceMul]); try rfl) ?_ | refine F_nil (by (try simp only [go_sem, reduceIte, Nat.reduceEqDiff, Nat.reduceAdd, Nat.reduceMul]); try rfl) ?_ | refine F_lss (by rfl) (by rfl) (by first | exact ltT (by omega) | exact ltF (by omega) | rfl) ?_ | refine F_lenR (by rfl) ?_ | refine hx_exitS (by rfl) ?_ | refine hx_false (by rfl) ?_ | refine hx_seq ?_ | refine hx_region ?_ | refine F_sub (by rfl) (by rfl) (by (try simp (disch := omega) only [go_sem, Int.reduceAdd, Int.reduceSub, Int.reduceMul, hn1', hbad]); try rfl) ?_ | refine F_st (by rfl) (by first | exact eI rfl | exact eB rfl | exact eR rfl | exact eS rfl | exact eP rfl | exact eT rfl | exact eA rfl | exact eN rfl | exact eQ rfl | exact eF rfl | exact eD rfl) (by (try simp only [go_sem]); try rfl) (by first | rfl | exact HL.ints_flat _ | exact HL.bools_flat _ | exact edges_flat _) (by rfl) (by decide) (by first | exact eO rfl | exact eW rfl) (by (try simp only [go_sem]); try rfl) (by (try simp only [go_sem]); first | omega | decide) (by (try simp (disch := omega) only [go_sem, hn1', hbad]); try rfl) (by (try simp only [go_sem]); try rfl) ?_ | refine F_mksl (by (try simp only [go_sem, reduceIte, Nat.reduceEqDiff, Nat.reduceAdd, Nat.reduceMul]); try rfl) (by rfl) (by omega) (by (try simp only [go_sem]); try rfl) (by (try simp only [go_sem]); try rfl) ?_)
    refine F_call (by (try simp only [List.map_cons, List.map_nil]); repeat (first | (apply eL1; · exact (by first | exact eI rfl | exact eB rfl | exact eR rfl | exact eS rfl | exact eP rfl | exact eT rfl | exact eA rfl | exact eN rfl | exact eQ rfl | exact eF rfl | exact eD rfl)) | rfl)) (by simp (disch := omega) only [thawL, hul, HV.thaw, allIds, aget, nget, if_true, if_false, reduceIte, Nat.reduceEqDiff, stripL, HV.strip, win_intsE, win_boolsE, win_edgesE, Nat.mul_one, List.cons_append, List.nil_append, List.append_nil, I, Bl, T3, Es, List.getD_cons_zero, List.getD_cons_succ, HL.ints_strip, HL.bools_strip, trip_strip, edges_strip]; try rfl) (ht_max n 0 (n - 1) eu hvu) ?_
    rintro _ ⟨fl, set, v, rfl, hF⟩
    rw [hul]
    refine ⟨(by simp only [refFreeL, HV.refFree, noRdL, HV.noRd, HL.ints_noRd, HL.bools_noRd, trip_noRd, edges_noRd, Bool.or_true, Bool.true_or, Bool.or_false, Bool.false_or, Bool.and_true, Bool.true_and, Bool.and_self, List.isEmpty_nil, beq_self_eq_true, List.cons_append, List.nil_append]), _, _, _, _, _, (by simp only [unpack, unpackL, List.append_nil, List.nil_append, List.cons_append, stride, Nat.reduceAdd, Nat.reduceMul, Nat.zero_add]; try rfl), (by decide), (by simp only [upF, upS]; try rfl), ?_⟩
    have hcapn := hF.cap
    have hcap0 := (capS_bd hvu set eu.length (Nat.le_refl _)).1
    repeat (first | refine F_mv (by first | exact eI rfl | exact eB rfl | exact eR rfl | exact eS rfl | exact eP rfl | exact eT rfl | exact eA rfl | exact eN rfl | exact eQ rfl | exact eF rfl | exact eD rfl) rfl ?_ | refine F_nil (by (try simp only [go_sem, reduceIte, Nat.reduceEqDiff, Nat.reduceAdd, Nat.reduceMul]); try rfl) ?_ | refine F_ext (by rfl) (by (try simp only [go_sem]); first | omega | decide) (by first | exact eI rfl | exact eB rfl | exact eR rfl | exact eS rfl | exact eP rfl | exact eT rfl | exact eA rfl | exact eN rfl | exact eQ rfl | exact eF rfl | exact eD rfl) ?_)
    have hnl : (nd.map nl).length = nd.length := by simp
    have hE : stripL (win (rowsO nd) 0 (n * 1)) = rowsI (nd.map nl) := by rw [rowsO_win _ (by omega), rowsO_strip]
    have hB : stripL (win (HL.bools bad) 0 (n * 1)) = HL.bools bad := by rw [win_boolsE _ (by omega), HL.bools_strip]
    refine hx_dropN [7, 11, 13, 14, 16] (⟨[(7, .int .i64 n), (11, .ref 0 [] 1 0 n), (13, .ref 1 [] 1 0 n), (14, .int .i64 v), (16, .int .i64 0)], [(0, .osl 1 n (rowsO nd)), (1, .osl 1 n (HL.bools bad))], 2⟩ : St) rfl ?_
    refine hx_freezeN 0 [7, 11, 13, 14, 16] _ (congrArg (fun c : List HV => (⟨[(7, .int .i64 n), (11, .sl n c), (13, .ref 0 [] 1 0 n), (14, .int .i64 v), (16, .int .i64 0)], [(0, .osl 1 n (HL.bools bad))], 1⟩ : St)) hE) ?_
    refine hx_freezeN 0 [7, 11, 13, 14, 16] _ (congrArg (fun c : List HV => (⟨[(7, .int .i64 n), (11, .sl n (rowsI (nd.map nl))), (13, .sl n c), (14, .int .i64 v), (16, .int .i64 0)], [], 0⟩ : St)) hB) ?_
    repeat (first | refine F_mv (by first | exact eI rfl | exact eB rfl | exact eR rfl | exact eS rfl | exact eP rfl | exact eT rfl | exact eA rfl | exact eN rfl | exact eQ rfl | exact eF rfl | exact eD rfl) rfl ?_ | refine hx_seq ?_ | refine hx_region ?_)
    refine F_call (by (try simp only [List.map_cons, List.map_nil]); repeat (first | (apply eL1; · exact (by first | exact eI rfl | exact eB rfl | exact eR rfl | exact eS rfl | exact eP rfl | exact eT rfl | exact eA rfl | exact eN rfl | exact eQ rfl | exact eF rfl | exact eD rfl)) | rfl)) (by simp (disch := omega) only [thawL, Gs, hnl, hnd, hbl, HV.thaw, allIds, aget, nget, if_true, if_false, reduceIte, Nat.reduceEqDiff, stripL, HV.strip, win_intsE, win_boolsE, win_edgesE, Nat.mul_one, List.cons_append, List.nil_append, List.append_nil, I, Bl, T3, Es, List.getD_cons_zero, List.getD_cons_succ, HL.ints_strip, HL.bools_strip, trip_strip, edges_strip]; try rfl) (ht_grank nd bad g) ?_
    rintro _ ⟨rank, rfl, hR⟩
    have hlr := hR.len
    have hfr := reach_found hn2 hvu hup hr hb hR hF
    rw [hnd]
    refine ⟨(by simp only [refFreeL, HV.refFree, noRdL, HV.noRd, HL.ints_noRd, HL.bools_noRd, trip_noRd, edges_noRd, Bool.or_true, Bool.true_or, Bool.or_false, Bool.false_or, Bool.and_true, Bool.true_and, Bool.and_self, List.isEmpty_nil, beq_self_eq_true, List.cons_append, List.nil_append]), _, _, _, _, _, (by simp only [unpack, unpackL, List.append_nil, List.nil_append, List.cons_append, stride, Nat.reduceAdd, Nat.reduceMul, Nat.zero_add]; try rfl), (by decide), (by simp only [upF, upS]; try rfl), ?_⟩
    repeat (first | refine F_mv (by first | exact eI rfl | exact eB rfl | exact eR rfl | exact eS rfl | exact eP rfl | exact eT rfl | exact eA rfl | exact eN rfl | exact eQ rfl | exact eF rfl | exact eD rfl) rfl ?_ | refine F_nil (by (try simp only [go_sem, reduceIte, Nat.reduceEqDiff, Nat.reduceAdd, Nat.reduceMul]); try rfl) ?_ | refine hx_seq ?_ | refine hx_region ?_)
    by_cases h0 : rank.getD 0 0 < 0
    · have hv0 := hfr.2 h0
      refine F_call (by (try simp only [List.map_cons, List.map_nil]); repeat (first | (apply eL1; · exact (by first | exact eI rfl | exact eB rfl | exact eR rfl | exact eS rfl | exact eP rfl | exact eT rfl | exact eA rfl | exact eN rfl | exact eQ rfl | exact eF rfl | exact eD rfl)) | rfl)) (by simp (disch := omega) only [thawL, Gs, hnl, hnd, hbl, HV.thaw, allIds, aget, nget, if_true, if_false, reduceIte, Nat.reduceEqDiff, stripL, HV.strip, win_intsE, win_boolsE, win_edgesE, Nat.mul_one, List.cons_append, List.nil_append, List.append_nil, I, Bl, T3, Es, List.getD_cons_zero, List.getD_cons_succ, HL.ints_strip, HL.bools_strip, trip_strip, edges_strip]; try rfl) (ht_witness nd bad rank 0 g hR (by omega) h0) ?_
      rintro _ ⟨ds, round, path, total, rfl, hT, hP, hlen⟩
      have hwit := hP.wit hT hlen
      have hpp := hP.pos
      have htop := hP.start.top
      have hnp := nl_len path
      have hlast := reach_last hup hr hb hwit
      have hp1 : (path.length : Int) - 1 = ((path.length - 1 : Nat) : Int) := by omega
      refine ⟨(by simp only [refFreeL, HV.refFree, noRdL, HV.noRd, HL.ints_noRd, HL.bools_noRd, trip_noRd, edges_noRd, Bool.or_true, Bool.true_or, Bool.or_false, Bool.false_or, Bool.and_true, Bool.true_and, Bool.and_self, List.isEmpty_nil, beq_self_eq_true, List.cons_append, List.nil_append]), _, _, _, _, _, (by simp only [unpack, unpackL, List.append_nil, List.nil_append, List.cons_append, stride, Nat.reduceAdd, Nat.reduceMul, Nat.zero_add]; try rfl), (by decide), (by simp only [upF, upS]; try rfl), ?_⟩
      repeat (first | refine F_mv (by first | exact eI rfl | exact eB rfl | exact eR rfl | exact eS rfl | exact eP rfl | exact eT rfl | exact eA rfl | exact eN rfl | exact eQ rfl | exact eF rfl | exact eD rfl) rfl ?_ | refine F_yes (by rfl) (by rfl) ?_ | refine F_iaR (by rfl) (by rfl) (by omega) (by (try simp only [go_sem, reduceIte, Nat.reduceEqDiff, Nat.reduceAdd, Nat.reduceMul]); try rfl) ?_ | refine F_ldR (by rfl) (by first | exact eO rfl | exact eW rfl) (by (try simp (disch := omega) only [go_sem, reduceIte, Nat.reduceEqDiff, Nat.reduceAdd, Nat.reduceMul, hp1, hn1', hlast]); try rfl) (by (try simp only [go_sem]); first | omega | decide) (by (try simp (disch := omega) only [go_sem, hp1, hn1', hlast]); try rfl) (by first | exact eI rfl | exact eB rfl | exact eR rfl | exact eS rfl | exact eP rfl | exact eT rfl | exact eA rfl | exact eN rfl | exact eQ rfl | exact eF rfl | exact eD rfl) ?_ | refine F_nil (by (try simp only [go_sem, reduceIte, Nat.reduceEqDiff, Nat.reduceAdd, Nat.reduceMul]); try rfl) ?_ | refine F_lss (by rfl) (by rfl) (by first | exact ltT (by omega) | exact ltF (by omega) | rfl) ?_ | refine F_neq (by rfl) (by rfl) (by first | exact neF (by omega) | exact neT (by omega) | rfl) ?_ | refine F_eql (by rfl) (by rfl) (by first | exact eqT (by omega) | exact eqF (by omega) | rfl) ?_ | refine F_pickF (by rfl) (by first | exact eI rfl | exact eB rfl | exact eR rfl | exact eS rfl | exact eP rfl | exact eT rfl | exact eA rfl | exact eN rfl | exact eQ rfl | exact eF rfl | exact eD rfl) ?_ | refine F_lenR (by rfl) ?_ | refine hx_false (by rfl) ?_ | refine hx_seq ?_ | refine hx_region ?_ | refine hx_skip ?_ | refine F_sub (by rfl) (by rfl) (by (try simp (disch := omega) only [go_sem, Int.reduceAdd, Int.reduceSub, Int.reduceMul, hp1, hn1', hlast]); try rfl) ?_ | refine F_gtr (by rfl) (by rfl) (by first | exact ltT (by omega) | exact ltF (by omega) | rfl) ?_ | refine F_beq (by rfl) (by rfl) (by (try simp only [go_sem, reduceIte, hp1, hn1', hlast]); try rfl) ?_)
      refine F_call (by (try simp only [List.map_cons, List.map_nil]); repeat (first | (apply eL1; · exact (by first | exact eI rfl | exact eB rfl | exact eR rfl | exact eS rfl | exact eP rfl | exact eT rfl | exact eA rfl | exact eN rfl | exact eQ rfl | exact eF rfl | exact eD rfl)) | rfl)) (by simp (disch := omega) only [thawL, HV.thaw, allIds, aget, nget, if_true, if_false, reduceIte, Nat.reduceEqDiff, stripL, HV.strip, win_intsE, win_boolsE, win_edgesE, Nat.mul_one, List.cons_append, List.nil_append, List.append_nil, I, Bl, T3, Es, List.getD_cons_zero, List.getD_cons_succ, HL.ints_strip, HL.bools_strip, trip_strip, edges_strip]; try rfl) (ht_lives) ?_
      rintro _ rfl
      refine ⟨(by simp only [refFreeL, HV.refFree, noRdL, HV.noRd, HL.ints_noRd, HL.bools_noRd, trip_noRd, edges_noRd, Bool.or_true, Bool.true_or, Bool.or_false, Bool.false_or, Bool.and_true, Bool.true_and, Bool.and_self, List.isEmpty_nil, beq_self_eq_true, List.cons_append, List.nil_append]), _, _, _, _, _, (by simp only [unpack, unpackL, List.append_nil, List.nil_append, List.cons_append, stride, Nat.reduceAdd, Nat.reduceMul, Nat.zero_add]; try rfl), (by decide), (by simp only [upF, upS]; try rfl), ?_⟩
      repeat (first | refine F_mv (by first | exact eI rfl | exact eB rfl | exact eR rfl | exact eS rfl | exact eP rfl | exact eT rfl | exact eA rfl | exact eN rfl | exact eQ rfl | exact eF rfl | exact eD rfl) rfl ?_ | refine F_nil (by (try simp only [go_sem, reduceIte, Nat.reduceEqDiff, Nat.reduceAdd, Nat.reduceMul]); try rfl) ?_ | refine F_pickT (by rfl) (by first | exact eI rfl | exact eB rfl | exact eR rfl | exact eS rfl | exact eP rfl | exact eT rfl | exact eA rfl | exact eN rfl | exact eQ rfl | exact eF rfl | exact eD rfl) ?_)
      refine hx_retF (by (try simp only [List.map_cons, List.map_nil]); repeat (first | (apply eL1; · exact (by first | exact eI rfl | exact eB rfl | exact eR rfl | exact eS rfl | exact eP rfl | exact eT rfl | exact eA rfl | exact eN rfl | exact eQ rfl | exact eF rfl | exact eD rfl)) | rfl)) (by simp only [takeDL, takeD, takeC, aget, Lk.upd, if_true, if_false, reduceIte, Nat.reduceEqDiff, List.append_nil, List.nil_append]; try rfl) (by first | trivial | (refine ⟨?_, ?_⟩ <;> trivial) | (simp only [and_true, true_and]; done)) ?_
      rfl
    · have hv0 : ¬ 0 < v := fun h => h0 (hfr.1 h)
      refine F_call (by (try simp only [List.map_cons, List.map_nil]); repeat (first | (apply eL1; · exact (by first | exact eI rfl | exact eB rfl | exact eR rfl | exact eS rfl | exact eP rfl | exact eT rfl | exact eA rfl | exact eN rfl | exact eQ rfl | exact eF rfl | exact eD rfl)) | rfl)) (by simp (disch := omega) only [thawL, Gs, hnl, hnd, hbl, HV.thaw, allIds, aget, nget, if_true, if_false, reduceIte, Nat.reduceEqDiff, stripL, HV.strip, win_intsE, win_boolsE, win_edgesE, Nat.mul_one, List.cons_append, List.nil_append, List.append_nil, I, Bl, T3, Es, List.getD_cons_zero, List.getD_cons_succ, HL.ints_strip, HL.bools_strip, trip_strip, edges_strip]; try rfl) (ht_witness_no nd bad 0 g (fun rank' hR' => .inr (.inr (by rw [hR'.unique g hR]; show 0 ≤ rank.getD 0 0; omega)))) ?_
      rintro _ rfl
      refine ⟨(by simp only [refFreeL, HV.refFree, noRdL, HV.noRd, HL.ints_noRd, HL.bools_noRd, trip_noRd, edges_noRd, Bool.or_true, Bool.true_or, Bool.or_false, Bool.false_or, Bool.and_true, Bool.true_and, Bool.and_self, List.isEmpty_nil, beq_self_eq_true, List.cons_append, List.nil_append]), _, _, _, _, _, (by simp only [unpack, unpackL, List.append_nil, List.nil_append, List.cons_append, stride, Nat.reduceAdd, Nat.reduceMul, Nat.zero_add]; try rfl), (by decide), (by simp only [upF, upS]; try rfl), ?_⟩
      repeat (first | refine F_mv (by first | exact eI rfl | exact eB rfl | exact eR rfl | exact eS rfl | exact eP rfl | exact eT rfl | exact eA rfl | exact eN rfl | exact eQ rfl | exact eF rfl | exact eD rfl) rfl ?_ | refine F_yes (by rfl) (by rfl) ?_ | refine F_no (by rfl) (by rfl) ?_ | refine F_iaR (by rfl) (by rfl) (by omega) (by (try simp only [go_sem, reduceIte, Nat.reduceEqDiff, Nat.reduceAdd, Nat.reduceMul]); try rfl) ?_ | refine F_ldR (by rfl) (by first | exact eO rfl | exact eW rfl) (by (try simp only [go_sem]); try rfl) (by (try simp only [go_sem]); first | omega | decide) (by (try simp (disch := omega) only [go_sem]); try rfl) (by first | exact eI rfl | exact eB rfl | exact eR rfl | exact eS rfl | exact eP rfl | exact eT rfl | exact eA rfl | exact eN rfl | exact eQ rfl | exact eF rfl | exact eD rfl) ?_ | refine F_nil (by (try simp only [go_sem, reduceIte, Nat.reduceEqDiff, Nat.reduceAdd, Nat.reduceMul]); try rfl) ?_ | refine F_lss (by rfl) (by rfl) (by first | exact ltT (by omega) | exact ltF (by omega) | rfl) ?_ | refine F_neq (by rfl) (by rfl) (by first | exact neF (by omega) | exact neT (by omega) | rfl) ?_ | refine F_eql (by rfl) (by rfl) (by first | exact eqT (by omega) | exact eqF (by omega) | rfl) ?_ | refine F_pickT (by rfl) (by first | exact eI rfl | exact eB rfl | exact eR rfl | exact eS rfl | exact eP rfl | exact eT rfl | exact eA rfl | exact eN rfl | exact eQ rfl | exact eF rfl | exact eD rfl) ?_ | refine F_pickF (by rfl) (by first | exact eI rfl | exact eB rfl | exact eR rfl | exact eS rfl | exact eP rfl | exact eT rfl | exact eA rfl | exact eN rfl | exact eQ rfl | exact eF rfl | exact eD rfl) ?_ | refine F_lenR (by rfl) ?_ | refine hx_false (by rfl) ?_ | refine hx_seq ?_ | refine hx_region ?_ | refine hx_skip ?_ | refine F_gtr (by rfl) (by rfl) (by first | exact ltT (by omega) | exact ltF (by omega) | rfl) ?_ | refine F_beq (by rfl) (by rfl) (by (try simp only [go_sem, reduceIte]); try rfl) ?_)
      refine F_call (by (try simp only [List.map_cons, List.map_nil]); repeat (first | (apply eL1; · exact (by first | exact eI rfl | exact eB rfl | exact eR rfl | exact eS rfl | exact eP rfl | exact eT rfl | exact eA rfl | exact eN rfl | exact eQ rfl | exact eF rfl | exact eD rfl)) | rfl)) (by simp (disch := omega) only [thawL, HV.thaw, allIds, aget, nget, if_true, if_false, reduceIte, Nat.reduceEqDiff, stripL, HV.strip, win_intsE, win_boolsE, win_edgesE, Nat.mul_one, List.cons_append, List.nil_append, List.append_nil, I, Bl, T3, Es, List.getD_cons_zero, List.getD_cons_succ, HL.ints_strip, HL.bools_strip, trip_strip, edges_strip]; try rfl) (ht_lives) ?_
      rintro _ rfl
      refine ⟨(by simp only [refFreeL, HV.refFree, noRdL, HV.noRd, HL.ints_noRd, HL.bools_noRd, trip_noRd, edges_noRd, Bool.or_true, Bool.true_or, Bool.or_false, Bool.false_or, Bool.and_true, Bool.true_and, Bool.and_self, List.isEmpty_nil, beq_self_eq_true, List.cons_append, List.nil_append]), _, _, _, _, _, (by simp only [unpack, unpackL, List.append_nil, List.nil_append, List.cons_append, stride, Nat.reduceAdd, Nat.reduceMul, Nat.zero_add]; try rfl), (by decide), (by simp only [upF, upS]; try rfl), ?_⟩
      repeat (first | refine F_mv (by first | exact eI rfl | exact eB rfl | exact eR rfl | exact eS rfl | exact eP rfl | exact eT rfl | exact eA rfl | exact eN rfl | exact eQ rfl | exact eF rfl | exact eD rfl) rfl ?_ | refine F_nil (by (try simp only [go_sem, reduceIte, Nat.reduceEqDiff, Nat.reduceAdd, Nat.reduceMul]); try rfl) ?_ | refine F_pickT (by rfl) (by first | exact eI rfl | exact eB rfl | exact eR rfl | exact eS rfl | exact eP rfl | exact eT rfl | exact eA rfl | exact eN rfl | exact eQ rfl | exact eF rfl | exact eD rfl) ?_)
      refine hx_retF (by (try simp only [List.map_cons, List.map_nil]); repeat (first | (apply eL1; · exact (by first | exact eI rfl | exact eB rfl | exact eR rfl | exact eS rfl | exact eP rfl | exact eT rfl | exact eA rfl | exact eN rfl | exact eQ rfl | exact eF rfl | exact eD rfl)) | rfl)) (by simp only [takeDL, takeD, takeC, aget, Lk.upd, if_true, if_false, reduceIte, Nat.reduceEqDiff, List.append_nil, List.nil_append]; try rfl) (by first | trivial | (refine ⟨?_, ?_⟩ <;> trivial) | (simp only [and_true, true_and]; done)) ?_
      rfl

end Go.Proofs.Ytbddkmhpfbmcmaa
