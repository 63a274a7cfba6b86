/-
  OWN WORK. Plain facts on the reversed network.
-/
import Derived.Test.YtbddkmhpfbmcmaaFlRef2
set_option linter.unusedSimpArgs false
set_option linter.unusedVariables false
namespace Go.Proofs.Ytbddkmhpfbmcmaa
open Go.RowKit Go.SL

theorem rev_net {n s t : Int} {es : List Edge} (hv : VNet n s t es) : VNet n t s (es.map Edge.rev) := by
  refine ⟨hv.n2, hv.n258, hv.t0, hv.tn, hv.s0, hv.sn, fun e => hv.st e.symm, by simpa using hv.len, ?_⟩
  intro e he
  obtain ⟨e0, h0, rfl⟩ := List.mem_map.1 he
  obtain ⟨h1, h2, h3, h4, h5, h6, h7⟩ := hv.all e0 h0
  exact ⟨h3, h4, h1, h2, fun e => h5 e.symm, h6, h7⟩
def comp (D : List Bool) : List Bool := D.map (!·)
theorem comp_len (D : List Bool) : (comp D).length = D.length := by simp [comp]
theorem ins_comp (D : List Bool) {u : Nat} (hu : u < D.length) : ins (comp D) u = !ins D u := by simp [ins, comp, hu]
theorem comp_cut {n s t : Int} {es : List Edge} (hv : VNet n s t es) {D : List Bool} (h : IsCut n t s D) : IsCut n s t (comp D) := by
  have hb := hv.bounds
  have hl := h.len
  refine ⟨by rw [comp_len]; exact hl, ?_, ?_⟩
  · rw [ins_comp _ (by omega), h.snk]; rfl
  · rw [ins_comp _ (by omega), h.src]; rfl
theorem comp_cap {n s t : Int} {es : List Edge} (hv : VNet n s t es) {D : List Bool} (hl : (D.length : Int) = n) : ∀ k, k ≤ es.length → capS (comp D) es k = capS D (es.map Edge.rev) k := by
  intro k
  induction k with
  | zero => intro _; rfl
  | succ k ih =>
    intro hk
    have hkl : k < es.length := by omega
    have hE := hv.all _ (List.getElem_mem hkl)
    have e1 : es.getD k default = es[k] := by simp [hkl]
    have e2 : (es.map Edge.rev).getD k default = es[k].rev := by simp [hkl]
    simp only [capS]
    rw [ih (by omega), e1, e2]
    have hE2 : VEdge n es[k].rev := ⟨hE.2.2.1, hE.2.2.2.1, hE.1, hE.2.1, fun e => hE.2.2.2.2.1 e.symm, hE.2.2.2.2.2.1, hE.2.2.2.2.2.2⟩
    rw [cross_eq (by rw [comp_len]; exact hl) hE, cross_eq hl hE2]
    have r1 := hE.1; have r2 := hE.2.1; have r3 := hE.2.2.1; have r4 := hE.2.2.2.1
    rw [ins_comp _ (by omega), ins_comp _ (by omega)]
    have : (!ins D es[k].f.toNat && !!ins D es[k].t.toNat) = (ins D es[k].rev.f.toNat && !ins D es[k].rev.t.toNat) := by
      show (!ins D es[k].f.toNat && !!ins D es[k].t.toNat) = (ins D es[k].t.toNat && !ins D es[k].f.toNat)
      rw [Bool.not_not, Bool.and_comm]
    rw [this]
    rfl
theorem rev_rev (es : List Edge) : (es.map Edge.rev).map Edge.rev = es := by
  rw [List.map_map]
  have : (Edge.rev ∘ Edge.rev) = id := by funext e; rfl
  rw [this, List.map_id]

theorem rev_found {n s t : Int} {es : List Edge} (hv : VNet n s t es) {fl fl' : List Int} {set set' : List Bool} {v v' : Int} (h : Found n s t es fl set v) (h' : Found n t s (es.map Edge.rev) fl' set' v') :
    v = v' ∧ capS (comp set') es es.length = v ∧ ∀ u, ins set u = true → ins set' u = true → False := by
  have hb := hv.bounds
  have c1 := comp_cut hv h'.cut
  have k1 : capS (comp set') es es.length = v' := by
    rw [comp_cap hv h'.cut.len _ (Nat.le_refl _)]
    have := h'.cap
    simpa using this
  have a1 := h.le_cap hv c1
  have hv' := rev_net hv
  have c2 : IsCut n t s (comp set) := comp_cut hv' h.cut
  have a2 := h'.le_cap hv' c2
  have k2 : capS (comp set) (es.map Edge.rev) (es.map Edge.rev).length = v := by
    rw [comp_cap hv' h.cut.len _ (Nat.le_refl _), rev_rev]
    simpa using h.cap
  rw [k1] at a1
  rw [k2] at a2
  have e : v = v' := by omega
  refine ⟨e, k1.trans e.symm, fun u h1 h2 => ?_⟩
  have h3 := h.least _ c1 (k1.trans e.symm) u h1
  have hu : u < set'.length := by
    rcases Nat.lt_or_ge u set'.length with hu | hu
    · exact hu
    · simp [ins, List.getElem?_eq_none hu] at h2
  rw [ins_comp _ hu, h2] at h3
  cases h3

end Go.Proofs.Ytbddkmhpfbmcmaa
