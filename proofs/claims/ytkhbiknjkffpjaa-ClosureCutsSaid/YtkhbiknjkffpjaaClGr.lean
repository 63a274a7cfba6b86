/-
  OWN WORK. Several small texts in one.
-/
import Derived.Test.YtkhbiknjkffpjaaGrBig
import Derived.Test.YtkhbiknjkffpjaaClClsd
section
set_option linter.unusedSimpArgs false
set_option linter.unusedVariables false
namespace Go.Proofs.Ytkhbiknjkffpjaa
open Go.RowKit Go.SL Go.HL

end Go.Proofs.Ytkhbiknjkffpjaa
end
section
set_option linter.unusedSimpArgs false
set_option linter.unusedVariables false
namespace Go.Proofs.Ytkhbiknjkffpjaa
open Go.RowKit Go.SL Go.HL

theorem fits_gr {nd : List (List Nat)} {bad : List Bool} (g : Gr nd bad) {X : List Bool} (hX : X.length = nd.length) : fitsB (nd.map nl) X = true := by
  unfold fitsB
  simp only [List.length_map, hX, decide_true, Bool.true_and, Bool.not_eq_true', List.any_eq_false]
  intro r hr
  obtain ⟨row, hrow, rfl⟩ := List.mem_map.1 hr
  simp only [Bool.not_eq_true, List.any_eq_false]
  intro x hx
  obtain ⟨y, hy, rfl⟩ := List.mem_map.1 hx
  obtain ⟨i, hi, rfl⟩ := mem_getD [] hrow
  have := g.lt i y hy
  simp [outB]
  omega

end Go.Proofs.Ytkhbiknjkffpjaa
end
