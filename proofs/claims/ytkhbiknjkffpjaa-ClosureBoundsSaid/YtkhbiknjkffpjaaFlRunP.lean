/-
  OWN WORK. Plain: the residual network of a list of edges; the run of the search.
-/
import Derived.Test.YtkhbiknjkffpjaaFlPu
import Derived.Test.YtkhbiknjkffpjaaNet
set_option linter.unusedSimpArgs false
set_option linter.unusedVariables false
namespace Go.Proofs.Ytkhbiknjkffpjaa

def toL (es : List Edge) : List Nat := (es.map fun e => [e.t.toNat, e.f.toNat]).flatten
def leftL (es : List Edge) : List Int := (es.map fun e => [e.c, 0]).flatten
def outsN (n : Nat) (es : List Edge) : Nat → List (List Nat)
  | 0 => List.replicate n []
  | j + 1 => ((outsN n es j).set (es.getD j default).f.toNat ((outsN n es j).getD (es.getD j default).f.toNat [] ++ [2 * j])).set (es.getD j default).t.toNat ((outsN n es j).getD (es.getD j default).t.toNat [] ++ [2 * j + 1])

theorem pairs_get {α : Type} (g h : Edge → α) (d : α) : ∀ (es : List Edge) (i : Nat) (hi : i < es.length), ((es.map fun e => [g e, h e]).flatten).getD (2 * i) d = g es[i] ∧ ((es.map fun e => [g e, h e]).flatten).getD (2 * i + 1) d = h es[i] := by
  intro es
  induction es with
  | nil => intro i hi; simp at hi
  | cons e es ih =>
    intro i hi
    cases i with
    | zero => simp
    | succ i =>
      have := ih i (by simpa using hi)
      have e1 : 2 * (i + 1) = 2 * i + 1 + 1 := by omega
      rw [e1]
      simpa using this

theorem pairs_len {α : Type} (g h : Edge → α) (es : List Edge) : ((es.map fun e => [g e, h e]).flatten).length = 2 * es.length := by
  induction es with
  | nil => rfl
  | cons e es ih => simp [ih]; omega

theorem pairs_take {α : Type} (g h : Edge → α) (es : List Edge) (j : Nat) (hj : j < es.length) : (((es.take (j + 1)).map fun e => [g e, h e]).flatten) = ((es.take j).map fun e => [g e, h e]).flatten ++ [g es[j], h es[j]] := by
  rw [List.take_succ_eq_append_getElem hj]
  simp only [List.map_append, List.map_cons, List.map_nil, List.flatten_append, List.flatten_cons, List.flatten_nil, List.append_nil]

theorem outsN_len (n : Nat) (es : List Edge) (j : Nat) : (outsN n es j).length = n := by
  induction j with
  | zero => simp [outsN]
  | succ j ih => simp [outsN, ih]

theorem outsN_mem {n s t : Int} {es : List Edge} (hv : VNet n s t es) : ∀ j, j ≤ es.length → ∀ v k, k ∈ (outsN n.toNat es j).getD v [] ↔ k < 2 * j ∧ (toL es).getD (twin k) 0 = v := by
  intro j
  induction j with
  | zero =>
    intro _ v k
    have : (outsN n.toNat es 0).getD v [] = [] := by
      rcases Nat.lt_or_ge v n.toNat with h | h
      · rw [getD_lt _ _ (by simpa [outsN] using h)]; simp [outsN]
      · rw [getD_ge _ _ (by simpa [outsN] using h)]
    rw [this]; simp
  | succ j ih =>
    intro hj v k
    have hj' : j < es.length := by omega
    have ih := ih (by omega)
    have hed : es.getD j default = es[j] := getD_lt _ _ hj'
    obtain ⟨g1, g2⟩ := pairs_get (fun e => e.t.toNat) (fun e => e.f.toNat) 0 es j hj'
    obtain ⟨a1, a2, a3, a4, a5, _, _⟩ := hv.all _ (List.getElem_mem hj')
    have hl := outsN_len n.toNat es j
    have hne : es[j].f.toNat ≠ es[j].t.toNat := by omega
    have t0 : twin (2 * j) = 2 * j + 1 := by unfold twin; rw [if_pos (by omega)]
    have t1 : twin (2 * j + 1) = 2 * j := by unfold twin; rw [if_neg (by omega)]; omega
    simp only [outsN, hed]
    have key : (k < 2 * (j + 1) ∧ (toL es).getD (twin k) 0 = v) ↔ ((k < 2 * j ∧ (toL es).getD (twin k) 0 = v) ∨ (k = 2 * j ∧ es[j].f.toNat = v) ∨ (k = 2 * j + 1 ∧ es[j].t.toNat = v)) := by
      constructor
      · rintro ⟨h1, h2⟩
        by_cases c1 : k < 2 * j
        · exact .inl ⟨c1, h2⟩
        · by_cases c2 : k = 2 * j
          · subst c2; rw [t0] at h2; exact .inr (.inl ⟨rfl, by rw [← h2]; exact g2.symm⟩)
          · have c3 : k = 2 * j + 1 := by omega
            subst c3; rw [t1] at h2; exact .inr (.inr ⟨rfl, by rw [← h2]; exact g1.symm⟩)
      · rintro (⟨h1, h2⟩ | ⟨rfl, h2⟩ | ⟨rfl, h2⟩)
        · exact ⟨by omega, h2⟩
        · exact ⟨by omega, by rw [t0, ← h2]; exact g2⟩
        · exact ⟨by omega, by rw [t1, ← h2]; exact g1⟩
    rw [key]
    by_cases c1 : v = es[j].t.toNat
    · subst c1
      rw [getD_set_eq _ _ _ (by simp [hl]; omega), List.mem_append, ih]
      simp [hne]
    · rw [getD_set_ne _ _ _ c1]
      by_cases c2 : v = es[j].f.toNat
      · subst c2
        rw [getD_set_eq _ _ _ (by simp [hl]; omega), List.mem_append, ih]
        simp [Ne.symm hne]
      · rw [getD_set_ne _ _ _ c2, ih]
        have h1 : ¬ es[j].f.toNat = v := fun e => c2 e.symm
        have h2 : ¬ es[j].t.toNat = v := fun e => c1 e.symm
        simp [h1, h2]

theorem netOK {n s t : Int} {es : List Edge} (hv : VNet n s t es) : NetOK n.toNat (2 * es.length) (toL es) (outsN n.toNat es es.length) := by
  have hk : ∀ k, k < 2 * es.length → ∃ i, ∃ hi : i < es.length, (k = 2 * i ∧ (toL es).getD k 0 = es[i].t.toNat ∧ (toL es).getD (twin k) 0 = es[i].f.toNat) ∨ (k = 2 * i + 1 ∧ (toL es).getD k 0 = es[i].f.toNat ∧ (toL es).getD (twin k) 0 = es[i].t.toNat) := by
    intro k hk
    have hi : k / 2 < es.length := by omega
    obtain ⟨g1, g2⟩ := pairs_get (fun e => e.t.toNat) (fun e => e.f.toNat) 0 es (k / 2) hi
    refine ⟨k / 2, hi, ?_⟩
    rcases Nat.mod_two_eq_zero_or_one k with h0 | h0
    · have e1 : 2 * (k / 2) = k := by omega
      have e2 : twin k = k + 1 := by unfold twin; rw [if_pos h0]
      rw [e1] at g1 g2
      exact .inl ⟨e1.symm, g1, by rw [e2]; exact g2⟩
    · have e1 : 2 * (k / 2) + 1 = k := by omega
      have e2 : twin k = 2 * (k / 2) := by unfold twin; rw [if_neg (by omega)]; omega
      rw [e1] at g2
      exact .inr ⟨e1.symm, g2, by rw [e2]; exact g1⟩
  refine ⟨by omega, pairs_len _ _ es, outsN_len _ _ _, ?_, outsN_mem hv _ (Nat.le_refl _), ?_⟩
  · intro k hk'
    obtain ⟨i, hi, h | h⟩ := hk k hk'
    · obtain ⟨a1, a2, a3, a4, a5, _, _⟩ := hv.all _ (List.getElem_mem hi); rw [h.2.1]; omega
    · obtain ⟨a1, a2, a3, a4, a5, _, _⟩ := hv.all _ (List.getElem_mem hi); rw [h.2.1]; omega
  · intro k hk'
    obtain ⟨i, hi, h | h⟩ := hk k hk'
    · obtain ⟨a1, a2, a3, a4, a5, _, _⟩ := hv.all _ (List.getElem_mem hi); rw [h.2.1, h.2.2]; omega
    · obtain ⟨a1, a2, a3, a4, a5, _, _⟩ := hv.all _ (List.getElem_mem hi); rw [h.2.1, h.2.2]; omega

/-- The state of the run: what has been sent so far is 'value'. -/
structure RunOK (s t : Nat) (es : List Edge) (left : List Int) (value : Int) : Prop where
  len : left.length = 2 * es.length
  nn : ∀ k, 0 ≤ left.getD k 0
  pair : ∀ k, k < 2 * es.length → left.getD k 0 + left.getD (twin k) 0 = (leftL es).getD k 0 + (leftL es).getD (twin k) 0
  net : ∀ u, netA (toL es) left u es.length = (if u = s then value else 0) - (if u = t then value else 0)

theorem leftL_pair {n s t : Int} {es : List Edge} (_hv : VNet n s t es) (i : Nat) (hi : i < es.length) : (leftL es).getD (2 * i) 0 = es[i].c ∧ (leftL es).getD (2 * i + 1) 0 = 0 := pairs_get (fun e => e.c) (fun _ => 0) 0 es i hi

theorem leftL_nn {n s t : Int} {es : List Edge} (hv : VNet n s t es) (k : Nat) : 0 ≤ (leftL es).getD k 0 := by
  rcases Nat.lt_or_ge k (2 * es.length) with h | h
  · have hi : k / 2 < es.length := by omega
    obtain ⟨g1, g2⟩ := leftL_pair hv (k / 2) hi
    obtain ⟨_, _, _, _, _, a6, _⟩ := hv.all _ (List.getElem_mem hi)
    rcases Nat.mod_two_eq_zero_or_one k with h0 | h0
    · rw [show k = 2 * (k / 2) by omega, g1]; exact a6
    · rw [show k = 2 * (k / 2) + 1 by omega, g2]; omega
  · rw [getD_ge _ _ (by rw [leftL, pairs_len]; exact h)]; omega

theorem leftL_sum {n s t : Int} {es : List Edge} (hv : VNet n s t es) (k : Nat) (hk : k < 2 * es.length) : (leftL es).getD k 0 + (leftL es).getD (twin k) 0 ≤ 1099511627776 := by
  have hi : k / 2 < es.length := by omega
  obtain ⟨g1, g2⟩ := leftL_pair hv (k / 2) hi
  obtain ⟨_, _, _, _, _, a6, a7⟩ := hv.all _ (List.getElem_mem hi)
  rcases Nat.mod_two_eq_zero_or_one k with h0 | h0
  · have e2 : twin k = 2 * (k / 2) + 1 := by unfold twin; rw [if_pos h0]; omega
    rw [e2, g2, show k = 2 * (k / 2) by omega, g1]; omega
  · have e2 : twin k = 2 * (k / 2) := by unfold twin; rw [if_neg (by omega)]; omega
    have e3 : (leftL es).getD k 0 = 0 := by rw [show k = 2 * (k / 2) + 1 by omega]; exact g2
    rw [e2, g1, e3]; omega

theorem RunOK.start {n s t : Int} {es : List Edge} (hv : VNet n s t es) : RunOK s.toNat t.toNat es (leftL es) 0 := by
  refine ⟨pairs_len _ _ es, leftL_nn hv, fun _ _ => rfl, ?_⟩
  intro u
  have : ∀ j, j ≤ es.length → netA (toL es) (leftL es) u j = 0 := by
    intro j
    induction j with
    | zero => intro _; rfl
    | succ j ih =>
      intro hj
      simp only [netA, ih (by omega)]
      unfold give
      rw [(leftL_pair hv j (by omega)).2]
      simp
  rw [this _ (Nat.le_refl _)]; simp

theorem RunOK.sums {n s t : Int} {es : List Edge} (hv : VNet n s t es) {s' t' : Nat} {left : List Int} {value : Int} (H : RunOK s' t' es left value) (k : Nat) (hk : k < 2 * es.length) : left.getD k 0 + left.getD (twin k) 0 ≤ 1099511627776 := by
  rw [H.pair k hk]; exact leftL_sum hv k hk

/-- What is sent is less than all capacities together. -/
theorem RunOK.bound {n s t : Int} {es : List Edge} (hv : VNet n s t es) {left : List Int} {value : Int} (H : RunOK s.toNat t.toNat es left value) : value ≤ 72057594037927936 := by
  have h1 := H.net s.toNat
  have hst : ¬ s.toNat = t.toNat := by have := hv.bounds; omega
  rw [if_pos rfl, if_neg hst] at h1
  have : ∀ j, j ≤ es.length → netA (toL es) left s.toNat j ≤ (j : Int) * 1099511627776 := by
    intro j
    induction j with
    | zero => intro _; simp [netA]
    | succ j ih =>
      intro hj
      have h2 := ih (by omega)
      have h3 := H.sums hv (2 * j + 1) (by omega)
      have h4 := H.nn (twin (2 * j + 1))
      have h5 := H.nn (2 * j + 1)
      simp only [netA, give]
      push_cast
      split <;> split <;> omega
  have h2 := this _ (Nat.le_refl _)
  have := hv.len
  omega

theorem RunOK.push {n s t : Int} {es : List Edge} (_hv : VNet n s t es) {left : List Int} {value : Int} (H : RunOK s.toNat t.toNat es left value) {outs : List (List Nat)} {level : List Int} {ats ats' : List Nat} {left' : List Int} {sent : Int}
    (P : Pu (2 * es.length) t.toNat s.toNat (toL es) outs level left ats left' ats' sent) : RunOK s.toNat t.toNat es left' (value + sent) := by
  refine ⟨by rw [P.lenl, H.len], P.nn, fun k hk => by rw [P.pair k hk, H.pair k hk], ?_⟩
  intro u
  have h1 := P.net u
  have h2 := H.net u
  rw [show 2 * es.length / 2 = es.length by omega] at h1
  rw [h1, h2]
  split <;> split <;> omega

/-- If the sink has a layer, something is sent. -/
theorem sent_pos {n nt s t : Nat} {to : List Nat} {outs : List (List Nat)} {level left left' : List Int} {ats ats' : List Nat} {sent amount : Int} (L : LevelOK n s outs to left level) (ht : 0 ≤ lv level t)
    (P : Pu nt t s to outs level left ats left' ats' sent) (ha : 1 ≤ amount) (hend : sent < amount → s ≠ t ∧ ats'.getD s 0 = (outs.getD s []).length) : 1 ≤ sent := by
  have h0 := P.s0
  by_cases hs : sent = 0
  · exfalso
    have hz := P.zero hs
    obtain ⟨hst, hsat⟩ := hend (by omega)
    have key : ∀ (j : Nat) (v : Nat), lv level v = (j : Int) → ¬ (v ≠ t ∧ ats'.getD v 0 = (outs.getD v []).length) → False := by
      intro j
      induction j with
      | zero =>
        intro v hv hne
        have := (L.zero v).1 (by simpa using hv)
        subst this
        exact hne ⟨hst, hsat⟩
      | succ j ih =>
        intro v hv hne
        obtain ⟨u, k, h1, h2, h3, h4⟩ := L.pred v (by omega)
        refine ih u (by push_cast at hv; omega) ?_
        rintro ⟨hu1, hu2⟩
        obtain ⟨p, hp, hpk⟩ := List.getElem_of_mem h1
        have := P.exh u hu1 p (by omega) k (by rw [List.getElem?_eq_getElem hp, hpk])
        rcases this with h | h | h
        · rw [hz] at h; omega
        · rw [h2] at h; omega
        · rw [h2] at h; exact hne h
    obtain ⟨j, hj⟩ := Int.eq_ofNat_of_zero_le ht
    exact key j t hj (fun h => h.1 rfl)
  · omega

end Go.Proofs.Ytkhbiknjkffpjaa
