/-
  OWN WORK. Plain facts: the order of the edges, the numbers of the nodes.
-/
import Derived.Test.YtkhbiknjkffpjaaClNetP
set_option linter.unusedSimpArgs false
set_option linter.unusedVariables false
namespace Go.Proofs.Ytkhbiknjkffpjaa
open Go.RowKit Go.SL

def capL (D : List Bool) (es : List Edge) : Int := (es.map fun e => if crossB D e then e.c else 0).sum
theorem capL_take (D : List Bool) (es : List Edge) : ∀ k, k ≤ es.length → capS D es k = capL D (es.take k) := by
  intro k
  induction k with
  | zero => intro _; rfl
  | succ k ih =>
    intro hk
    have hkl : k < es.length := by omega
    rw [List.take_succ_eq_append_getElem hkl]
    simp only [capS, capL, List.map_append, List.sum_append, List.map_cons, List.map_nil, List.sum_cons, List.sum_nil]
    rw [ih (by omega)]
    have : es.getD k default = es[k] := by simp [hkl]
    rw [this]
    unfold capL
    omega
theorem capS_L (D : List Bool) (es : List Edge) : capS D es es.length = capL D es := by rw [capL_take D es _ (Nat.le_refl _), List.take_length]
/-- The nodes are numbered in the opposite order. -/
def Edge.ren (n : Int) (e : Edge) : Edge := ⟨n - 1 - e.f, n - 1 - e.t, e.c⟩
end Go.Proofs.Ytkhbiknjkffpjaa
