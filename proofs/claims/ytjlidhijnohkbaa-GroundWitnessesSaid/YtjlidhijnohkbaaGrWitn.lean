/-
  OWN WORK. The law's own check of a witness, in the value language.
-/
import Derived.Test.YtjlidhijnohkbaaGrWit2
import Derived.Test.YtjlidhijnohkbaaGrHas
set_option linter.unusedSimpArgs false
set_option linter.unusedVariables false
namespace Go.Proofs.Ytjlidhijnohkbaa
open Go.RowKit Go.HL

/-- A list is a witness for a node. -/
structure IsWit (nd : List (List Nat)) (bad : List Bool) (i : Nat) (path : List Nat) : Prop where
  pos : 0 < path.length
  head : path.getD 0 0 = i
  lt : ∀ k, k < path.length → path.getD k 0 < nd.length
  edge : ∀ k, k + 1 < path.length → path.getD (k + 1) 0 ∈ nd.getD (path.getD k 0) []
  ends : ∀ k, k < path.length → ((bad.getD (path.getD k 0) false = true ∨ path.getD k 0 ∈ path.take k) ↔ k + 1 = path.length)
theorem mem_nl {l : List Nat} {x : Nat} : (x : Int) ∈ nl l ↔ x ∈ l := by
  simp only [nl, List.mem_map]
  exact ⟨fun ⟨a, h1, h2⟩ => by have e : (a : Int) = x := h2; rw [← Int.ofNat.inj e]; exact h1, fun h => ⟨x, h, rfl⟩⟩

end Go.Proofs.Ytjlidhijnohkbaa
