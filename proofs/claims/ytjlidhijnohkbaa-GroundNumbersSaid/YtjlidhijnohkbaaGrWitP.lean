/-
  OWN WORK. Distances, plainly: the first step of a shortest way; circles.
-/
import Derived.Test.YtjlidhijnohkbaaGrRest
set_option linter.unusedSimpArgs false
set_option linter.unusedVariables false
namespace Go.Proofs.Ytjlidhijnohkbaa

section
variable {nd : List (List Nat)} {bad : List Bool} {ds : List (List Int)} {round : List Int}
/-- The distance from v to x. -/
def dd (ds : List (List Int)) (v x : Nat) : Int := (ds.getD v []).getD x 0

theorem IsTable.step (g : Gr nd bad) (t : IsTable nd bad ds round) {v j : Nat} (hv : v < nd.length) (hb : bad.getD v false = false) (hj : j ∈ nd.getD v []) : ∀ (m x : Nat), x < nd.length → dd ds j x = m → 0 ≤ dd ds v x ∧ dd ds v x ≤ m + 1 := by
  have hjn := g.lt v j hj
  have dv := t.dist v hv
  have dj := t.dist j hjn
  intro m
  induction m with
  | zero =>
    intro x hx e
    obtain rfl := (dj.zero x hx).1 e
    have := dv.cl v hv (by have := (dv.zero v hv).2 rfl; omega) hb x hj
    have h0 := (dv.zero v hv).2 rfl
    unfold dd
    omega
  | succ m ih =>
    intro x hx e
    obtain ⟨k, hk, h1, h2, h3, h4⟩ := dj.par x hx (by unfold dd at e; omega)
    obtain ⟨a, b⟩ := ih k hk (by unfold dd at e ⊢; omega)
    have := dv.cl k hk a h1 x h2
    unfold dd at *
    omega
theorem IsTable.first (g : Gr nd bad) (t : IsTable nd bad ds round) {v : Nat} (hv : v < nd.length) (hb : bad.getD v false = false) : ∀ (m x : Nat), x < nd.length → dd ds v x = (m : Int) + 1 → ∃ j ∈ nd.getD v [], dd ds j x = m := by
  have dv := t.dist v hv
  intro m
  induction m with
  | zero =>
    intro x hx e
    obtain ⟨k, hk, h1, h2, h3, h4⟩ := dv.par x hx (by unfold dd at e; omega)
    obtain rfl := (dv.zero k hk).1 (by unfold dd at e; omega)
    exact ⟨x, h2, ((t.dist x hx).zero x hx).2 rfl⟩
  | succ m ih =>
    intro x hx e
    obtain ⟨k, hk, h1, h2, h3, h4⟩ := dv.par x hx (by unfold dd at e; omega)
    obtain ⟨j, hj, h5⟩ := ih k hk (by unfold dd at e ⊢; omega)
    have hjn := g.lt v j hj
    have h6 := (t.dist j hjn).cl k hk (by unfold dd at h5; omega) h1 x h2
    refine ⟨j, hj, ?_⟩
    have h7 := t.step g hv hb hj (dd ds j x).toNat x hx (by unfold dd at *; omega)
    unfold dd at *
    omega
theorem IsTable.stuck (t : IsTable nd bad ds round) {v : Nat} (hv : v < nd.length) (hb : bad.getD v false = true) : ∀ (m x : Nat), x < nd.length → dd ds v x = m → x = v := by
  have dv := t.dist v hv
  intro m
  induction m with
  | zero => intro x hx e; exact (dv.zero x hx).1 e
  | succ m ih =>
    intro x hx e
    obtain ⟨k, hk, h1, h2, h3, h4⟩ := dv.par x hx (by unfold dd at e; omega)
    obtain rfl := ih k hk (by unfold dd at e ⊢; omega)
    rw [hb] at h1; cases h1
/-- The shortest circle, by its first step. -/
theorem IsTable.circ (g : Gr nd bad) (t : IsTable nd bad ds round) {v : Nat} (hv : v < nd.length) (hb : bad.getD v false = false) :
    (∀ j ∈ nd.getD v [], 0 ≤ dd ds j v → 0 < round.getD v 0 ∧ round.getD v 0 ≤ dd ds j v + 1) ∧ (0 < round.getD v 0 → ∃ j ∈ nd.getD v [], 0 ≤ dd ds j v ∧ round.getD v 0 = dd ds j v + 1) := by
  have dv := t.dist v hv
  have hgt : ∀ u, v ∈ nd.getD u [] → u < nd.length := fun u h => by
    apply Classical.byContradiction
    intro hn
    have : nd.getD u [] = [] := by rw [List.getD_eq_getElem?_getD, List.getElem?_eq_none (by omega)]; rfl
    rw [this] at h; cases h
  refine ⟨fun j hj h0 => ?_, fun h => ?_⟩
  · have hjn := g.lt v j hj
    by_cases e : dd ds j v = 0
    · have hjv : v = j := (((t.dist j hjn).zero v hv).1 e)
      subst hjv
      have := t.round_.least v hv v hj ⟨hb, hb, by have := (dv.zero v hv).2 rfl; omega⟩
      have h1 := (dv.zero v hv).2 rfl
      unfold dd at *
      omega
    · obtain ⟨u, hu, h1, h2, h3, h4⟩ := (t.dist j hjn).par v hv (by unfold dd at *; omega)
      obtain ⟨a, b⟩ := t.step g hv hb hj (dd ds j u).toNat u hu (by unfold dd at *; omega)
      have := t.round_.least v hv u h2 ⟨h1, hb, by unfold dd at a; exact a⟩
      unfold dd at *
      omega
  · obtain ⟨u, h1, h2, h3⟩ := t.round_.from_ v hv h
    have hu := hgt u h1
    obtain ⟨b1, _, b3⟩ := h2
    by_cases e : (ds.getD v []).getD u 0 = 0
    · obtain rfl := (dv.zero u hu).1 e
      exact ⟨u, h1, by have := (dv.zero u hu).2 rfl; unfold dd; omega, by have := (dv.zero u hu).2 rfl; unfold dd; omega⟩
    · obtain ⟨j, hj, h4⟩ := t.first g hv hb ((ds.getD v []).getD u 0 - 1).toNat u hu (by unfold dd; omega)
      have hjn := g.lt v j hj
      have h5 := (t.dist j hjn).cl u hu (by unfold dd at h4; omega) b1 v h1
      refine ⟨j, hj, by unfold dd; omega, ?_⟩
      -- not longer, and not shorter
      have h6 : round.getD v 0 ≤ dd ds j v + 1 := by
        by_cases e2 : dd ds j v = 0
        · have hjv : v = j := (((t.dist j hjn).zero v hv).1 e2)
          subst hjv
          have := t.round_.least v hv v hj ⟨hb, hb, by have := (dv.zero v hv).2 rfl; omega⟩
          have h1 := (dv.zero v hv).2 rfl
          unfold dd at *
          omega
        · obtain ⟨w, hw, k1, k2, k3, k4⟩ := (t.dist j hjn).par v hv (by unfold dd at *; omega)
          obtain ⟨a, b⟩ := t.step g hv hb hj (dd ds j w).toNat w hw (by unfold dd at *; omega)
          have := t.round_.least v hv w k2 ⟨k1, hb, by unfold dd at a; exact a⟩
          unfold dd at *
          omega
      unfold dd at *
      omega
end

end Go.Proofs.Ytjlidhijnohkbaa
