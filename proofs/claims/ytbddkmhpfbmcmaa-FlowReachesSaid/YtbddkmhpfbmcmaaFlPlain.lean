/-
  OWN WORK. Plain facts on networks, flows and cuts: the value of a greatest flow is one number, the least cut is one set.
-/
import Derived.Test.YtbddkmhpfbmcmaaFlCut
set_option linter.unusedSimpArgs false
set_option linter.unusedVariables false
namespace Go.Proofs.Ytbddkmhpfbmcmaa
open Go.RowKit Go.SL

theorem Found.le_cap {n s t : Int} {es : List Edge} (hv : VNet n s t es) {fl : List Int} {set : List Bool} {v : Int} (h : Found n s t es fl set v) {D : List Bool} (hD : IsCut n s t D) : v ≤ capS D es es.length := by
  have := weak_duality hv h.flow hD
  rw [h.val] at this
  exact this
theorem Found.val_eq {n s t : Int} {es : List Edge} (hv : VNet n s t es) {fl fl' : List Int} {set set' : List Bool} {v v' : Int} (h : Found n s t es fl set v) (h' : Found n s t es fl' set' v') : v = v' := by
  have h1 := h.le_cap hv h'.cut
  have h2 := h'.le_cap hv h.cut
  rw [h'.cap] at h1
  rw [h.cap] at h2
  omega
theorem list_ins {a b : List Bool} (hl : a.length = b.length) (h : ∀ v, ins a v = ins b v) : a = b := by
  apply List.ext_getElem hl
  intro i h1 h2
  have := h i
  simpa [ins, h1, h2] using this
theorem Found.set_eq {n s t : Int} {es : List Edge} (hv : VNet n s t es) {fl fl' : List Int} {set set' : List Bool} {v v' : Int} (h : Found n s t es fl set v) (h' : Found n s t es fl' set' v') : set = set' := by
  have e := h.val_eq hv h'
  have l1 := h.cut.len
  have l2 := h'.cut.len
  refine list_ins (by omega) fun u => ?_
  have a1 := h.least set' h'.cut (h'.cap.trans e.symm) u
  have a2 := h'.least set h.cut (h.cap.trans e) u
  cases h1 : ins set u <;> cases h2 : ins set' u <;> simp_all

theorem getD_setI (l : List Int) (i j : Nat) (x : Int) (hi : i < l.length) : (l.set i x).getD j 0 = if i = j then x else l.getD j 0 := by
  simp only [List.getD_eq_getElem?_getD, List.getElem?_set]
  split
  · rename_i h; subst h; simp [hi]
  · rfl

theorem getD_setB (l : List Bool) (i j : Nat) (x : Bool) (hi : i < l.length) : (l.set i x).getD j false = if i = j then x else l.getD j false := by
  simp only [List.getD_eq_getElem?_getD, List.getElem?_set]
  split
  · rename_i h; subst h; simp [hi]
  · rfl
/-- A set that holds the source and lacks the sink. -/
theorem cut_set {n s t : Nat} {l : List Bool} (hl : l.length = n) (hs : s < n) (ht : t < n) (hst : s ≠ t) : IsCut (n : Int) s t ((l.set s true).set t false) := by
  refine ⟨by simp only [List.length_set]; omega, ?_, ?_⟩
  · show ((l.set s true).set t false).getD s false = true
    rw [getD_setB _ _ _ _ (by simp only [List.length_set]; omega), if_neg (by omega), getD_setB _ _ _ _ (by omega), if_pos rfl]
  · show ((l.set s true).set t false).getD t false = false
    rw [getD_setB _ _ _ _ (by simp only [List.length_set]; omega), if_pos rfl]

/-- What the nodes have given is their balance. -/
theorem nets_bal {n s t : Int} {es : List Edge} (hv : VNet n s t es) (fl : List Int) : ∀ k, k ≤ es.length → ∀ u : Nat, (nets n.toNat es fl k).getD u 0 = if u < n.toNat then balE es fl u k else 0 := by
  intro k
  induction k with
  | zero => intro _ u; simp only [nets, balE, List.getD_eq_getElem?_getD, List.getElem?_replicate]; split <;> rfl
  | succ k ih =>
    intro hk u
    have ih' := ih (by omega)
    obtain ⟨h1, h2, h3, h4, h5, _, _⟩ := hv.all _ (List.getElem_mem (show k < es.length by omega))
    have he : es.getD k default = es[k]'(by omega) := by simp [show k < es.length by omega]
    have hl := nets_len n.toNat es fl k
    simp only [nets, netUp, balE, he]
    have hne : (es[k]'(by omega)).f.toNat ≠ (es[k]'(by omega)).t.toNat := by omega
    rw [getD_setI _ _ _ _ (by simp [hl]; omega), getD_setI _ _ _ _ (by simp [hl]; omega), getD_setI _ _ _ _ (by simp [hl]; omega), if_neg hne, ih', ih', ih']
    by_cases c1 : (es[k]'(by omega)).t.toNat = u
    · subst c1
      rw [if_pos rfl, if_neg hne, if_pos rfl, if_pos (by omega)]
      omega
    · rw [if_neg c1, if_neg c1]
      by_cases c2 : (es[k]'(by omega)).f.toNat = u
      · subst c2
        rw [if_pos rfl, if_pos rfl, if_pos (by omega)]
        omega
      · rw [if_neg c2, if_neg c2]
        split <;> omega

/-- Check of a flow. -/
theorem check_flow {n s t : Nat} {es : List Edge} (hv : VNet n s t es) {fl : List Int} (hf : IsFlow n s t es fl) {x y : Int} (h : CheckR n s t es fl x y) : x = balE es fl s es.length ∧ y = 0 := by
  have hb := hv.bounds
  have hn : ∀ u : Nat, (nets n es fl es.length).getD u 0 = if u < n then balE es fl u es.length else 0 := fun u => by
    have := nets_bal hv fl _ (Nat.le_refl _) u
    simpa using this
  have hodd : ¬ oddTo s t (nets n es fl es.length) n := by
    rintro ⟨u, h1, h2, h3, h4⟩
    refine h4 ?_
    rw [hn, if_pos h1]
    exact hf.bal u (by omega) h2 h3
  rcases h with ⟨a, _, _⟩ | ⟨_, a, _, _⟩ | ⟨_, _, rfl, rfl⟩
  · exact absurd hf.ok a
  · exact absurd a hodd
  · refine ⟨?_, rfl⟩
    simp only [Int.toNat_natCast]
    rw [hn, if_pos (by omega)]

end Go.Proofs.Ytbddkmhpfbmcmaa
