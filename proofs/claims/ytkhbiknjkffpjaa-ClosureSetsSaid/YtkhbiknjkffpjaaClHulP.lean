/-
  OWN WORK. The least closed set that contains a set, plainly.
-/
import Derived.Test.YtkhbiknjkffpjaaClClsd
set_option linter.unusedSimpArgs false
set_option linter.unusedVariables false
namespace Go.Proofs.Ytkhbiknjkffpjaa

def unm (out : List Bool) : Nat := (out.filter (!·)).length
theorem unm_le (out : List Bool) : unm out ≤ out.length := List.length_filter_le _ _
theorem unm_set : ∀ (out : List Bool) (i : Nat), i < out.length → out.getD i false = false → unm (out.set i true) + 1 = unm out
  | [], _, h, _ => absurd h (Nat.not_lt_zero _)
  | b :: out, 0, _, h => by
    have hb : b = false := by simpa using h
    subst hb
    simp [unm]
  | b :: out, i + 1, h, h2 => by
    have ih := unm_set out i (by simpa using h) (by simpa using h2)
    unfold unm at ih ⊢
    cases b <;> simp only [List.set_cons_succ, List.filter_cons, Bool.not_false, Bool.not_true, Bool.false_eq_true, if_true, if_false, List.length_cons] <;> omega
theorem getD_setT (out : List Bool) (i u : Nat) (hi : i < out.length) : (out.set i true).getD u false = if i = u then true else out.getD u false := by
  simp only [List.getD_eq_getElem?_getD, List.getElem?_set]
  split
  · rename_i h; subst h; simp [hi]
  · rfl
def ClosedX (g : List (List Int)) (X : List Bool) : Prop := ∀ u, X.getD u false = true → ∀ j ∈ g.getD u [], X.getD j.toNat false = true
def Sub (A B : List Bool) : Prop := ∀ u : Nat, A.getD u false = true → B.getD u false = true
structure IsHull (g : List (List Int)) (set out : List Bool) : Prop where
  len : out.length = set.length
  sup : Sub set out
  closed : ClosedX g out
  least : ∀ X, ClosedX g X → Sub set X → Sub out X
theorem IsHull.unique {g : List (List Int)} {set a b : List Bool} (ha : IsHull g set a) (hb : IsHull g set b) : a = b := by
  apply List.ext_getElem
  · rw [ha.len, hb.len]
  · intro i h1 h2
    have e1 : a.getD i false = a[i] := by simp [h1]
    have e2 : b.getD i false = b[i] := by simp [h2]
    rw [← e1, ← e2]
    have h3 := ha.least b hb.closed hb.sup i
    have h4 := hb.least a ha.closed ha.sup i
    cases hx : a.getD i false with
    | true => rw [h3 hx]
    | false =>
      cases hy : b.getD i false with
      | false => rfl
      | true => rw [h4 hy] at hx; cases hx
/-- The search for the hull, under way. -/
structure HInv (g : List (List Int)) (set : List Bool) (m : Nat) (ex : Nat → Prop) (out : List Bool) (l : List Nat) : Prop where
  len : out.length = set.length
  sup : ∀ u, u < m → set.getD u false = true → out.getD u false = true
  inl : ∀ u ∈ l, u < set.length ∧ out.getD u false = true
  ok : ∀ u, out.getD u false = true → u ∉ l → ¬ ex u → ∀ j ∈ g.getD u [], out.getD j.toNat false = true
  least : ∀ X, ClosedX g X → Sub set X → Sub out X
  few : 2 * unm out + l.length ≤ 2 * set.length
section
variable {g : List (List Int)} {set out : List Bool} {l : List Nat} {m i p : Nat} {ex : Nat → Prop}
theorem HInv.init (g : List (List Int)) (set : List Bool) : HInv g set 0 (fun _ => False) (List.replicate set.length false) [] := by
  have hf : ∀ u : Nat, (List.replicate set.length false).getD u false = false := fun u => by
    rw [List.getD_eq_getElem?_getD, List.getElem?_replicate]; split <;> rfl
  refine ⟨by simp, fun u hu => absurd hu (Nat.not_lt_zero _), by simp, fun u hu => ?_, fun X _ _ u hu => ?_, ?_⟩
  · rw [hf] at hu; cases hu
  · rw [hf] at hu; cases hu
  · have := unm_le (List.replicate set.length false)
    simp at this ⊢
    omega
theorem HInv.visit (h : HInv g set m ex out l) (hi : i < set.length) (hu : out.getD i false = false) (hx : ∀ X, ClosedX g X → Sub set X → X.getD i false = true) : HInv g set m ex (out.set i true) (l ++ [i]) := by
  have hio : i < out.length := by rw [h.len]; exact hi
  have hg : ∀ u : Nat, (out.set i true).getD u false = if i = u then true else out.getD u false := fun u => getD_setT out i u hio
  have up : ∀ u : Nat, out.getD u false = true → (out.set i true).getD u false = true := fun u hu => by
    rw [hg]; split
    · rfl
    · exact hu
  refine ⟨by simp [h.len], fun u h1 h2 => up u (h.sup u h1 h2), fun u hul => ?_, fun u h1 h2 h3 j hj => ?_, fun X h1 h2 u h3 => ?_, ?_⟩
  · rcases List.mem_append.1 hul with h1 | h1
    · exact ⟨(h.inl u h1).1, up u (h.inl u h1).2⟩
    · obtain rfl : u = i := by simpa using h1
      exact ⟨hi, by rw [hg]; simp⟩
  · simp only [List.mem_append, List.mem_singleton, not_or] at h2
    rw [hg, if_neg (fun e => h2.2 e.symm)] at h1
    exact up _ (h.ok u h1 h2.1 h3 j hj)
  · rw [hg] at h3
    split at h3
    · rename_i e; rw [← e]; exact hx X h1 h2
    · exact h.least X h1 h2 u h3
  · have := unm_set out i hio hu
    have := h.few
    rw [List.length_append]
    simp only [List.length_cons, List.length_nil]
    omega
theorem HInv.pop (h : HInv g set m (fun _ => False) out (l ++ [p])) : HInv g set m (fun u => u = p) out l ∧ p < set.length ∧ out.getD p false = true := by
  have hp := h.inl p (by simp)
  refine ⟨⟨h.len, h.sup, fun u hu => h.inl u (by simp [hu]), fun u h1 h2 h3 => h.ok u h1 (by simp [h2, h3]) (fun h => h), h.least, ?_⟩, hp⟩
  have := h.few
  rw [List.length_append] at this
  omega
theorem HInv.done (h : HInv g set m (fun u => u = p) out l) (hr : ∀ j ∈ g.getD p [], out.getD j.toNat false = true) : HInv g set m (fun _ => False) out l :=
  ⟨h.len, h.sup, h.inl, fun u h1 h2 _ => by
    by_cases e : u = p
    · subst e; exact hr
    · exact h.ok u h1 h2 e, h.least, h.few⟩
theorem HInv.next (h : HInv g set m ex out l) (hm : set.getD m false = true → out.getD m false = true) : HInv g set (m + 1) ex out l :=
  ⟨h.len, fun u h1 h2 => by
    by_cases e : u = m
    · subst e; exact hm h2
    · exact h.sup u (by omega) h2, h.inl, h.ok, h.least, h.few⟩
theorem HInv.hull (h : HInv g set set.length (fun _ => False) out []) : IsHull g set out :=
  ⟨h.len, fun u hu => by
    by_cases e : u < set.length
    · exact h.sup u e hu
    · exact absurd hu (by rw [List.getD_eq_getElem?_getD, List.getElem?_eq_none (by omega)]; simp), fun u hu j hj => h.ok u hu (by simp) (fun h => h) j hj, h.least⟩
end

/-- The sweeps of the reference. -/
structure Swp (g : List (List Int)) (set out : List Bool) : Prop where
  len : out.length = set.length
  sup : Sub set out
  least : ∀ X, ClosedX g X → Sub set X → Sub out X
section
variable {g : List (List Int)} {set out : List Bool} {i j : Nat}
theorem Swp.init : Swp g set set := ⟨rfl, fun _ h => h, fun _ _ h => h⟩
theorem Swp.mark (h : Swp g set out) (hj : (j : Int) ∈ g.getD i []) (hi : out.getD i false = true) (hjl : j < set.length) : Swp g set (out.set j true) := by
  have hjo : j < out.length := by rw [h.len]; exact hjl
  have hg : ∀ u : Nat, (out.set j true).getD u false = if j = u then true else out.getD u false := fun u => getD_setT out j u hjo
  refine ⟨by simp [h.len], fun u hu => by
    rw [hg]; split
    · rfl
    · exact h.sup u hu, fun X h1 h2 u h3 => ?_⟩
  rw [hg] at h3
  split at h3
  · rename_i e; subst e; exact h1 i (h.least X h1 h2 i hi) _ hj
  · exact h.least X h1 h2 u h3
theorem closedB_iff (hf : fitsB g out = true) : closedB g out = true ↔ ClosedX g out := by
  obtain ⟨he, hin⟩ := fits_in hf
  unfold closedB
  rw [hf, Bool.true_and, Bool.not_eq_true', List.any_eq_false]
  constructor
  · intro h u hu j hj
    have hul : u < g.length := by
      rw [he]
      apply Classical.byContradiction
      intro hn
      rw [List.getD_eq_getElem?_getD, List.getElem?_eq_none (by omega)] at hu; cases hu
    have := h u (List.mem_range.2 hul)
    unfold lacks at this
    rw [hu, Bool.true_and] at this
    simp only [Bool.not_eq_true, List.any_eq_false] at this
    have := this j hj
    simpa using this
  · intro h u _
    unfold lacks
    cases hu : out.getD u false with
    | false => simp
    | true =>
      simp only [Bool.true_and, Bool.not_eq_true, List.any_eq_false]
      intro j hj
      rw [h u hu j hj]; decide
theorem Swp.hull (h : Swp g set out) (hc : ClosedX g out) : IsHull g set out := ⟨h.len, h.sup, hc, h.least⟩
theorem fitsB_len (h : fitsB g set = true) (hl : out.length = set.length) : fitsB g out = true := by unfold fitsB at h ⊢; rw [hl]; exact h
end

end Go.Proofs.Ytkhbiknjkffpjaa
