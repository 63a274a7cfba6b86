/-
  OWN WORK. Plain facts on networks, flows and cuts: the value of a greatest flow is one number, the least cut is one set.
-/
import Derived.Test.YtkhbiknjkffpjaaFlCut
set_option linter.unusedSimpArgs false
set_option linter.unusedVariables false
namespace Go.Proofs.Ytkhbiknjkffpjaa
open Go.RowKit Go.SL

theorem Found.le_cap {n s t : Int} {es : List Edge} (hv : VNet n s t es) {fl : List Int} {set : List Bool} {v : Int} (h : Found n s t es fl set v) {D : List Bool} (hD : IsCut n s t D) : v ≤ capS D es es.length := by
  have := weak_duality hv h.flow hD
  rw [h.val] at this
  exact this
theorem Found.val_eq {n s t : Int} {es : List Edge} (hv : VNet n s t es) {fl fl' : List Int} {set set' : List Bool} {v v' : Int} (h : Found n s t es fl set v) (h' : Found n s t es fl' set' v') : v = v' := by
  have h1 := h.le_cap hv h'.cut
  have h2 := h'.le_cap hv h.cut
  rw [h'.cap] at h1
  rw [h.cap] at h2
  omega
theorem list_ins {a b : List Bool} (hl : a.length = b.length) (h : ∀ v, ins a v = ins b v) : a = b := by
  apply List.ext_getElem hl
  intro i h1 h2
  have := h i
  simpa [ins, h1, h2] using this
theorem Found.set_eq {n s t : Int} {es : List Edge} (hv : VNet n s t es) {fl fl' : List Int} {set set' : List Bool} {v v' : Int} (h : Found n s t es fl set v) (h' : Found n s t es fl' set' v') : set = set' := by
  have e := h.val_eq hv h'
  have l1 := h.cut.len
  have l2 := h'.cut.len
  refine list_ins (by omega) fun u => ?_
  have a1 := h.least set' h'.cut (h'.cap.trans e.symm) u
  have a2 := h'.least set h.cut (h.cap.trans e) u
  cases h1 : ins set u <;> cases h2 : ins set' u <;> simp_all

end Go.Proofs.Ytkhbiknjkffpjaa
