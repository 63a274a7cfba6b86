/-
  OWN WORK. The reference's search for a circle, plainly: it finds the program's circle.
-/
import Derived.Test.YtjlidhijnohkbaaGrSrchP
set_option linter.unusedSimpArgs false
set_option linter.unusedVariables false
namespace Go.Proofs.Ytjlidhijnohkbaa

/-- A path that can be the beginning of a circle. -/
structure BegC (nd : List (List Nat)) (bad : List Bool) (i : Nat) (path : List Nat) : Prop where
  pos : 0 < path.length
  head : path.getD 0 0 = i
  lt : ∀ k, k < path.length → path.getD k 0 < nd.length ∧ bad.getD (path.getD k 0) false = false
  edge : ∀ k, k + 1 < path.length → path.getD (k + 1) 0 ∈ nd.getD (path.getD k 0) []
section
variable {nd : List (List Nat)} {bad : List Bool} {ds : List (List Int)} {round rank : List Int} {i f n k : Nat} {path w : List Nat}
theorem BegC.one (hi : i < nd.length) (hb : bad.getD i false = false) : BegC nd bad i [i] :=
  ⟨by simp, rfl, fun k hk => by obtain rfl : k = 0 := by simpa using hk
                                exact ⟨hi, hb⟩, fun k hk => by simp at hk⟩
theorem BegC.add (g : Gr nd bad) (s : BegC nd bad i path) {v : Nat} (hb : bad.getD v false = false) (hv : v ∈ nd.getD (lastN path) []) : BegC nd bad i (path ++ [v]) := by
  have hp := s.pos
  have hlen : (path ++ [v]).length = path.length + 1 := by simp
  refine ⟨by omega, by rw [getD_app1 _ _ hp]; exact s.head, fun k hk => ?_, fun k hk => ?_⟩
  · rw [hlen] at hk
    by_cases e : k < path.length
    · rw [getD_app1 _ _ e]; exact s.lt k e
    · obtain rfl : k = path.length := by omega
      rw [getD_app2]; exact ⟨g.lt _ _ hv, hb⟩
  · rw [hlen] at hk
    by_cases e : k + 1 < path.length
    · rw [getD_app1 _ _ e, getD_app1 _ _ (by omega)]; exact s.edge k e
    · have e1 : k + 1 = path.length := by omega
      have e2 : k = path.length - 1 := by omega
      rw [getD_app1 _ _ (show k < path.length by omega), e1, getD_app2, e2]; exact hv
theorem BegC.circ (s : BegC nd bad i path) (h : path.getD 0 0 ∈ nd.getD (lastN path) []) : IsCirc nd bad path.length (fun i => path.getD (i % path.length) 0) := by
  have hp := s.pos
  have hlt : ∀ i, i % path.length < path.length := fun i => Nat.mod_lt _ hp
  refine ⟨hp, fun i => (s.lt _ (hlt i)).1, fun i => (s.lt _ (hlt i)).2, fun i => ?_, fun i => by simp⟩
  show path.getD ((i + 1) % path.length) 0 ∈ nd.getD (path.getD (i % path.length) 0) []
  have hi := hlt i
  by_cases e : i % path.length + 1 < path.length
  · have e2 : (i + 1) % path.length = i % path.length + 1 := by
      rw [← Nat.mod_eq_of_lt e, Nat.mod_add_mod]
    rw [e2]; exact s.edge _ e
  · have e2 : (i + 1) % path.length = 0 := by
      rw [← Nat.mod_add_mod, show i % path.length + 1 = path.length by omega, Nat.mod_self]
    have e3 : i % path.length = path.length - 1 := by omega
    rw [e2, e3]; exact h
/-- Along a shortest circle nothing is lost. -/
theorem IsCirc.tight (g : Gr nd bad) (t : IsTable nd bad ds round) {c : Nat → Nat} (h : IsCirc nd bad n c) (hn : round.getD (c 0) 0 = n) : ∀ k, k < n → 0 < k → dd ds (c k) (c 0) = n - k := by
  have lo : ∀ k, k < n → 0 < k → (n : Int) - k ≤ dd ds (c k) (c 0) := by
    intro k
    induction k with
    | zero => intro _ h0; cases h0
    | succ k ih =>
      intro hk _
      have hw := t.walk h (k + 1) (n - (k + 1))
      rw [show k + 1 + (n - (k + 1)) = 0 + n by omega, h.back] at hw
      by_cases e : k = 0
      · subst e
        have := (t.circ g (h.lt 0) (h.good 0)).1 _ (h.edge 0) hw.1
        rw [Nat.zero_add] at hw this ⊢
        omega
      · have h1 := ih (by omega) (by omega)
        have h2 := t.step g (h.lt k) (h.good k) (h.edge k) (dd ds (c (k + 1)) (c 0)).toNat (c 0) (h.lt 0) (by omega)
        omega
  intro k hk h0
  have hw := t.walk h k (n - k)
  rw [show k + (n - k) = 0 + n by omega, h.back] at hw
  have := lo k hk h0
  omega
end

end Go.Proofs.Ytjlidhijnohkbaa
