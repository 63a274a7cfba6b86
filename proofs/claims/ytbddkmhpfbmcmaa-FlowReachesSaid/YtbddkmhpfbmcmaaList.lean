/-
  OWN WORK. Plain lemmas on lists.
-/
set_option linter.unusedSimpArgs false
set_option linter.unusedVariables false
namespace Go.Proofs.Ytbddkmhpfbmcmaa

theorem getD_lt {α : Type} (l : List α) (d : α) {k : Nat} (h : k < l.length) : l.getD k d = l[k] := by simp [h]
theorem getD_ge {α : Type} (l : List α) (d : α) {k : Nat} (h : l.length ≤ k) : l.getD k d = d := by simp [h]
theorem getD_set_eq {α : Type} (l : List α) (d x : α) {k : Nat} (h : k < l.length) : (l.set k x).getD k d = x := by simp [h]
theorem getD_set_ne {α : Type} (l : List α) (d x : α) {k j : Nat} (h : j ≠ k) : (l.set k x).getD j d = l.getD j d := by
  simp [List.getElem?_set_ne (by omega : k ≠ j)]

end Go.Proofs.Ytbddkmhpfbmcmaa
