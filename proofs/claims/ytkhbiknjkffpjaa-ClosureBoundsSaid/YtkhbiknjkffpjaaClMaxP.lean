/-
  OWN WORK. Several small texts in one.
-/
import Derived.Test.YtkhbiknjkffpjaaClNetP
section
set_option linter.unusedSimpArgs false
set_option linter.unusedVariables false
namespace Go.Proofs.Ytkhbiknjkffpjaa
open Go.RowKit Go.SL

def capL (D : List Bool) (es : List Edge) : Int := (es.map fun e => if crossB D e then e.c else 0).sum
theorem capL_take (D : List Bool) (es : List Edge) : ∀ k, k ≤ es.length → capS D es k = capL D (es.take k) := by
  intro k
  induction k with
  | zero => intro _; rfl
  | succ k ih =>
    intro hk
    have hkl : k < es.length := by omega
    rw [List.take_succ_eq_append_getElem hkl]
    simp only [capS, capL, List.map_append, List.sum_append, List.map_cons, List.map_nil, List.sum_cons, List.sum_nil]
    rw [ih (by omega)]
    have : es.getD k default = es[k] := by simp [hkl]
    rw [this]
    unfold capL
    omega
theorem capS_L (D : List Bool) (es : List Edge) : capS D es es.length = capL D es := by rw [capL_take D es _ (Nat.le_refl _), List.take_length]
/-- The nodes are numbered in the opposite order. -/
def Edge.ren (n : Int) (e : Edge) : Edge := ⟨n - 1 - e.f, n - 1 - e.t, e.c⟩
end Go.Proofs.Ytkhbiknjkffpjaa
end
section
set_option linter.unusedSimpArgs false
set_option linter.unusedVariables false
namespace Go.Proofs.Ytkhbiknjkffpjaa
open Go.RowKit Go.SL

/-- The weight of a set. -/
def wS (w : List Int) (X : List Bool) : Nat → Int
  | 0 => 0
  | k + 1 => wS w X k + if X.getD k false then w.getD k 0 else 0
def posS (w : List Int) : Nat → Int
  | 0 => 0
  | k + 1 => posS w k + max 0 (w.getD k 0)
def ClosedN (nd : List (List Nat)) (X : List Bool) : Prop := ∀ u, X.getD u false = true → ∀ j ∈ nd.getD u [], X.getD j false = true
/-- The least closed set of the greatest weight. -/
structure MaxSet (w : List Int) (nd : List (List Nat)) (S : List Bool) : Prop where
  len : S.length = nd.length
  closed : ClosedN nd S
  most : ∀ X : List Bool, X.length = nd.length → ClosedN nd X → wS w X nd.length ≤ wS w S nd.length
  least : ∀ X : List Bool, X.length = nd.length → ClosedN nd X → wS w X nd.length = wS w S nd.length → ∀ u : Nat, S.getD u false = true → X.getD u false = true
section
variable {w : List Int} {nd : List (List Nat)} {bad : List Bool} {S X : List Bool}
theorem MaxSet.unique (a : MaxSet w nd S) (b : MaxSet w nd X) : S = X := by
  have e : wS w X nd.length = wS w S nd.length := by
    have := a.most X b.len b.closed
    have := b.most S a.len a.closed
    omega
  apply List.ext_getElem
  · rw [a.len, b.len]
  · intro i h1 h2
    have e1 : S.getD i false = S[i] := by simp [h1]
    have e2 : X.getD i false = X[i] := by simp [h2]
    rw [← e1, ← e2]
    have h3 := a.least X b.len b.closed e i
    have h4 := b.least S a.len a.closed e.symm i
    cases hx : S.getD i false with
    | true => rw [h3 hx]
    | false =>
      cases hy : X.getD i false with
      | false => rfl
      | true => rw [h4 hy] at hx; cases hx
theorem capL_app (D : List Bool) (es fs : List Edge) : capL D (es ++ fs) = capL D es + capL D fs := by
  unfold capL; rw [List.map_append, List.sum_append]
theorem posS_bd (hw : WOK w) : ∀ k : Nat, 0 ≤ posS w k ∧ posS w k ≤ (k : Int) * 2147483648
  | 0 => by simp [posS]
  | k + 1 => by
    have ih := posS_bd hw k
    have := hw k
    simp only [posS]
    omega
theorem wS_le_pos (w : List Int) (X : List Bool) : ∀ k, wS w X k ≤ posS w k
  | 0 => by simp [posS, wS]
  | k + 1 => by
    have ih := wS_le_pos w X k
    simp only [posS, wS]
    split <;> omega
/-- The set, the source and no sink. -/
def cutD (X : List Bool) : List Bool := X ++ [true, false]
theorem cutD_ins {n : Nat} (hl : X.length = n) (u : Nat) : ins (cutD X) u = if u < n then X.getD u false else decide (u = n) := by
  unfold ins cutD
  rw [List.getD_eq_getElem?_getD]
  by_cases h : u < n
  · rw [if_pos h, List.getElem?_append_left (by omega), List.getD_eq_getElem?_getD]
  · rw [if_neg h, List.getElem?_append_right (by omega), hl]
    by_cases h2 : u = n
    · subst h2; simp
    · by_cases h3 : u = n + 1
      · subst h3; simp
      · rw [List.getElem?_eq_none (by simp; omega)]; simp [h2]
theorem cutD_cut {n : Nat} (hl : X.length = n) : IsCut ((n : Int) + 2) n ((n : Int) + 1) (cutD X) := by
  refine ⟨by simp [cutD, hl], ?_, ?_⟩
  · rw [Int.toNat_natCast, cutD_ins hl, if_neg (by omega)]; simp
  · rw [show ((n : Int) + 1).toNat = n + 1 by omega, cutD_ins hl, if_neg (by omega)]; simp
theorem cut_cutD {n : Nat} {D : List Bool} (h : IsCut ((n : Int) + 2) n ((n : Int) + 1) D) : D = cutD (D.take n) := by
  have hl := h.len
  have h1 := h.src
  have h2 := h.snk
  rw [show ((n : Int) + 1).toNat = n + 1 by omega] at h2
  rw [Int.toNat_natCast] at h1
  have htl : (D.take n).length = n := by rw [List.length_take]; omega
  refine list_ins (by simp [cutD]; omega) fun v => ?_
  rw [cutD_ins htl]
  by_cases hv : v < n
  · rw [if_pos hv]
    unfold ins
    rw [List.getD_eq_getElem?_getD, List.getD_eq_getElem?_getD, List.getElem?_take_of_lt hv]
  · rw [if_neg hv]
    by_cases h3 : v = n
    · subst h3; rw [h1]; simp
    · by_cases h4 : v = n + 1
      · subst h4; rw [h2]; simp
      · unfold ins
        rw [List.getD_eq_getElem?_getD, List.getElem?_eq_none (by omega)]; simp [h3]
theorem crossD {n : Nat} (hl : X.length = n) {e : Edge} (he : VEdge ((n : Int) + 2) e) : crossB (cutD X) e = (ins (cutD X) e.f.toNat && !ins (cutD X) e.t.toNat) := cross_eq (by simp [cutD, hl]) he
theorem cap_w {n : Nat} (hl : X.length = n) (hw : WOK w) : ∀ k, k ≤ n → capL (cutD X) (wEdges n w k) = posS w k - wS w X k
  | 0, _ => by simp [capL, wEdges, posS, wS]
  | k + 1, h => by
    have ih := cap_w hl hw k (by omega)
    have hwk := hw k
    rw [wEdges, capL_app, ih]
    simp only [posS, wS, wEdge]
    generalize w.getD k 0 = x at hwk ⊢
    have hk := cutD_ins hl k
    rw [if_pos (show k < n by omega)] at hk
    have hn := cutD_ins hl n
    rw [if_neg (by omega), decide_eq_true rfl] at hn
    have hn1 := cutD_ins hl (n + 1)
    rw [if_neg (by omega), decide_eq_false (by omega)] at hn1
    split
    · rename_i hp
      have hc := crossD hl (e := ⟨n, k, x⟩) ⟨by simp only; omega, by simp only; omega, by simp only; omega, by simp only; omega, by simp only; omega, by simp only; omega, by simp only; omega⟩
      simp only [Int.toNat_natCast] at hc
      rw [hn, hk, Bool.true_and] at hc
      simp only [capL, List.map_cons, List.map_nil, List.sum_cons, List.sum_nil, hc]
      cases X.getD k false <;> simp <;> omega
    · split
      · rename_i hm
        have hc := crossD hl (e := ⟨k, (n : Int) + 1, -x⟩) ⟨by simp only; omega, by simp only; omega, by simp only; omega, by simp only; omega, by simp only; omega, by simp only; omega, by simp only; omega⟩
        simp only [Int.toNat_natCast] at hc
        rw [show ((n : Int) + 1).toNat = n + 1 by omega, hn1, hk, Bool.not_false, Bool.and_true] at hc
        simp only [capL, List.map_cons, List.map_nil, List.sum_cons, List.sum_nil, hc]
        cases X.getD k false <;> simp <;> omega
      · have : x = 0 := by omega
        rw [this]
        simp [capL]
theorem cap_list (D : List Bool) (es : List Edge) (h0 : ∀ e ∈ es, 0 ≤ e.c) : 0 ≤ capL D es ∧ (∀ e ∈ es, crossB D e = true → e.c ≤ capL D es) ∧ ((∀ e ∈ es, crossB D e = false) → capL D es = 0) := by
  induction es with
  | nil => simp [capL]
  | cons a es ih =>
    obtain ⟨i1, i2, i3⟩ := ih fun e he => h0 e (by simp [he])
    have ha := h0 a (by simp)
    have e : capL D (a :: es) = (if crossB D a then a.c else 0) + capL D es := by simp [capL]
    rw [e]
    refine ⟨by split <;> omega, fun x hx hc => ?_, fun h => ?_⟩
    · rcases List.mem_cons.1 hx with rfl | hx
      · rw [if_pos hc]; omega
      · have := i2 x hx hc
        split <;> omega
    · rw [if_neg (by rw [h a (by simp)]; decide), i3 fun x hx => h x (by simp [hx])]; rfl
theorem cap_n (g : Gr nd bad) (hl : X.length = nd.length) : 0 ≤ capL (cutD X) (nEdges nd nd.length) ∧ (ClosedN nd X → capL (cutD X) (nEdges nd nd.length) = 0) ∧ (¬ ClosedN nd X → 1099511627776 ≤ capL (cutD X) (nEdges nd nd.length)) := by
  have hc : ∀ e ∈ nEdges nd nd.length, e.c = 1099511627776 := fun e he => by obtain ⟨i, j, _, _, _, rfl⟩ := mem_nEdges.1 he; rfl
  obtain ⟨h1, h2, h3⟩ := cap_list (cutD X) (nEdges nd nd.length) fun e he => by rw [hc e he]; omega
  have cr : ∀ i j, i < nd.length → j ∈ nd.getD i [] → j ≠ i → crossB (cutD X) ⟨i, j, 1099511627776⟩ = (X.getD i false && !X.getD j false) := fun i j hi hj hne => by
    have hjn := g.lt i j hj
    rw [crossD hl ⟨by simp only; omega, by simp only; omega, by simp only; omega, by simp only; omega, by simp only; omega, by simp only; omega, by simp only; omega⟩]
    simp only [Int.toNat_natCast]
    rw [cutD_ins hl, cutD_ins hl, if_pos hi, if_pos hjn]
  refine ⟨h1, fun hcl => h3 fun e he => ?_, fun hn => ?_⟩
  · obtain ⟨i, j, hi, hj, hne, rfl⟩ := mem_nEdges.1 he
    rw [cr i j hi hj hne]
    cases hx : X.getD i false with
    | false => rfl
    | true => rw [hcl i hx j hj]; rfl
  · have : ∃ u j, X.getD u false = true ∧ j ∈ nd.getD u [] ∧ X.getD j false = false := by
      apply Classical.byContradiction
      intro hno
      refine hn fun u hu j hj => ?_
      cases hx : X.getD j false with
      | true => rfl
      | false => exact absurd ⟨u, j, hu, hj, hx⟩ hno
    obtain ⟨u, j, hu, hj, hx⟩ := this
    have hul : u < nd.length := by
      rw [← hl]
      apply Classical.byContradiction
      intro h
      rw [List.getD_eq_getElem?_getD, List.getElem?_eq_none (by omega)] at hu; cases hu
    have hne : j ≠ u := fun e => by rw [e, hu] at hx; cases hx
    have := h2 ⟨u, j, 1099511627776⟩ (mem_nEdges.2 ⟨u, j, hul, hj, hne, rfl⟩) (by rw [cr u j hul hj hne, hu, hx]; rfl)
    exact this
theorem cap_net (g : Gr nd bad) (hw : WOK w) (hl : X.length = nd.length) : capS (cutD X) (netE w nd) (netE w nd).length = posS w nd.length - wS w X nd.length + capL (cutD X) (nEdges nd nd.length) := by
  rw [capS_L]
  unfold netE
  rw [capL_app, cap_w hl hw _ (Nat.le_refl _)]
/-- The least cut of the network is the least closed set of the greatest weight. -/
theorem found_max (g : Gr nd bad) (hw : WOK w) {fl : List Int} {set : List Bool} {value : Int} (h : Found ((nd.length : Int) + 2) nd.length ((nd.length : Int) + 1) (netE w nd) fl set value) :
    MaxSet w nd (set.take nd.length) ∧ value = posS w nd.length - wS w (set.take nd.length) nd.length := by
  have hsz := g.size
  have hv := netE_ok g hw
  have hD := cut_cutD h.cut
  have hsl := h.cut.len
  have hl : (set.take nd.length).length = nd.length := by rw [List.length_take]; omega
  have hcap := h.cap
  rw [hD, cap_net g hw hl] at hcap
  obtain ⟨n1, n2, n3⟩ := cap_n g hl
  have hpos := posS_bd hw nd.length
  have up : ∀ X : List Bool, X.length = nd.length → ClosedN nd X → value ≤ posS w nd.length - wS w X nd.length := fun X hX hc => by
    have := h.le_cap hv (cutD_cut hX)
    rw [cap_net g hw hX, (cap_n g hX).2.1 hc] at this
    omega
  have hcl : ClosedN nd (set.take nd.length) := by
    apply Classical.byContradiction
    intro hn
    have h3 := n3 hn
    have h0 := up (List.replicate nd.length false) (by simp) (fun u hu => by
      rw [List.getD_eq_getElem?_getD, List.getElem?_replicate] at hu
      split at hu <;> cases hu)
    have hz : ∀ k, wS w (List.replicate nd.length false) k = 0 := by
      intro k
      induction k with
      | zero => rfl
      | succ k ih =>
        simp only [wS, ih]
        have : (List.replicate nd.length false).getD k false = false := by
          rw [List.getD_eq_getElem?_getD, List.getElem?_replicate]; split <;> rfl
        rw [this]; rfl
    rw [hz] at h0
    have := wS_le_pos w (set.take nd.length) nd.length
    omega
  have hval : value = posS w nd.length - wS w (set.take nd.length) nd.length := by rw [n2 hcl] at hcap; omega
  refine ⟨⟨hl, hcl, fun X hX hc => by have := up X hX hc; omega, fun X hX hc he u hu => ?_⟩, hval⟩
  have := h.least (cutD X) (cutD_cut hX) (by rw [cap_net g hw hX, (cap_n g hX).2.1 hc]; omega) u (by
    rw [hD, cutD_ins hl]
    have hul : u < nd.length := by
      rw [← hl]
      apply Classical.byContradiction
      intro h
      rw [List.getD_eq_getElem?_getD, List.getElem?_eq_none (by omega)] at hu; cases hu
    rw [if_pos hul]; exact hu)
  rw [cutD_ins hX] at this
  split at this
  · exact this
  · rename_i hnl
    rw [List.getD_eq_getElem?_getD, List.getElem?_eq_none (by rw [hl]; omega)] at hu; cases hu
end

end Go.Proofs.Ytkhbiknjkffpjaa
end
