/-
  OWN WORK. Plain facts: the order of the edges, the numbers of the nodes.
-/
import Derived.Test.YtbddkmhpfbmcmaaFlPlain
set_option linter.unusedSimpArgs false
set_option linter.unusedVariables false
namespace Go.Proofs.Ytbddkmhpfbmcmaa
open Go.RowKit Go.SL

def capL (D : List Bool) (es : List Edge) : Int := (es.map fun e => if crossB D e then e.c else 0).sum
theorem capL_take (D : List Bool) (es : List Edge) : ∀ k, k ≤ es.length → capS D es k = capL D (es.take k) := by
  intro k
  induction k with
  | zero => intro _; rfl
  | succ k ih =>
    intro hk
    have hkl : k < es.length := by omega
    rw [List.take_succ_eq_append_getElem hkl]
    simp only [capS, capL, List.map_append, List.sum_append, List.map_cons, List.map_nil, List.sum_cons, List.sum_nil]
    rw [ih (by omega)]
    have : es.getD k default = es[k] := by simp [hkl]
    rw [this]
    unfold capL
    omega
theorem capS_L (D : List Bool) (es : List Edge) : capS D es es.length = capL D es := by rw [capL_take D es _ (Nat.le_refl _), List.take_length]
theorem capL_reverse (D : List Bool) (es : List Edge) : capL D es.reverse = capL D es := by
  unfold capL
  induction es with
  | nil => rfl
  | cons e r ih => simp only [List.reverse_cons, List.map_append, List.sum_append, ih, List.map_cons, List.map_nil, List.sum_cons, List.sum_nil]; omega
theorem net_reverse {n s t : Int} {es : List Edge} (hv : VNet n s t es) : VNet n s t es.reverse :=
  ⟨hv.n2, hv.n258, hv.s0, hv.sn, hv.t0, hv.tn, hv.st, by simpa using hv.len, fun e he => hv.all e (by simpa using he)⟩

theorem order_found {n s t : Int} {es : List Edge} (hv : VNet n s t es) {fl fl' : List Int} {set set' : List Bool} {v v' : Int} (h : Found n s t es fl set v) (h' : Found n s t es.reverse fl' set' v') : v = v' ∧ set = set' := by
  have hv' := net_reverse hv
  have k : ∀ D, capS D es.reverse es.reverse.length = capS D es es.length := fun D => by rw [capS_L, capS_L, capL_reverse]
  have a1 := h.le_cap hv h'.cut
  have a2 := h'.le_cap hv' h.cut
  rw [k, h.cap] at a2
  rw [← k, h'.cap] at a1
  have e : v = v' := by omega
  refine ⟨e, ?_⟩
  have l1 := h.cut.len
  have l2 := h'.cut.len
  refine list_ins (by omega) fun u => ?_
  have b1 := h.least set' h'.cut ((k set').symm.trans (h'.cap.trans e.symm)) u
  have b2 := h'.least set h.cut ((k set).trans (h.cap.trans e)) u
  cases h1 : ins set u <;> cases h2 : ins set' u <;> simp_all

/-- The nodes are numbered in the opposite order. -/
def Edge.ren (n : Int) (e : Edge) : Edge := ⟨n - 1 - e.f, n - 1 - e.t, e.c⟩
theorem ren_edge {n : Int} {e : Edge} (h : VEdge n e) : VEdge n (e.ren n) := by
  obtain ⟨h1, h2, h3, h4, h5, h6, h7⟩ := h
  refine ⟨?_, ?_, ?_, ?_, ?_, h6, h7⟩ <;> simp only [Edge.ren] <;> omega
theorem ren_net {n s t : Int} {es : List Edge} (hv : VNet n s t es) : VNet n (n - 1 - s) (n - 1 - t) (es.map (Edge.ren n)) := by
  have hb := hv.bounds
  refine ⟨hv.n2, hv.n258, by omega, by omega, by omega, by omega, by omega, by simpa using hv.len, ?_⟩
  intro e he
  obtain ⟨e0, h0, rfl⟩ := List.mem_map.1 he
  exact ren_edge (hv.all e0 h0)
theorem ins_rev (D : List Bool) {u : Nat} (hu : u < D.length) : ins D.reverse (D.length - 1 - u) = ins D u := by
  have h2 : D.length - 1 - (D.length - 1 - u) = u := by omega
  simp only [ins, List.getD_eq_getElem?_getD]
  rw [List.getElem?_reverse (by omega), h2]
theorem ren_cut {n s t : Int} {es : List Edge} (hv : VNet n s t es) {D : List Bool} (h : IsCut n s t D) : IsCut n (n - 1 - s) (n - 1 - t) D.reverse := by
  have hb := hv.bounds
  have hl := h.len
  refine ⟨by simpa using hl, ?_, ?_⟩
  · have := ins_rev D (u := s.toNat) (by omega)
    rw [show (n - 1 - s).toNat = D.length - 1 - s.toNat by omega, this]; exact h.src
  · have := ins_rev D (u := t.toNat) (by omega)
    rw [show (n - 1 - t).toNat = D.length - 1 - t.toNat by omega, this]; exact h.snk
theorem ren_cap {n s t : Int} {es : List Edge} (hv : VNet n s t es) {D : List Bool} (hl : (D.length : Int) = n) : capL D.reverse (es.map (Edge.ren n)) = capL D es := by
  unfold capL
  rw [List.map_map]
  congr 1
  apply List.map_congr_left
  intro e he
  have hE := hv.all e he
  have h1 := hE.1; have h2 := hE.2.1; have h3 := hE.2.2.1; have h4 := hE.2.2.2.1
  simp only [Function.comp]
  rw [cross_eq (by simpa using hl) (ren_edge hE), cross_eq hl hE]
  have e1 := ins_rev D (u := e.f.toNat) (by omega)
  have e2 := ins_rev D (u := e.t.toNat) (by omega)
  have r1 : (e.ren n).f.toNat = D.length - 1 - e.f.toNat := by simp only [Edge.ren]; omega
  have r2 : (e.ren n).t.toNat = D.length - 1 - e.t.toNat := by simp only [Edge.ren]; omega
  rw [r1, r2, e1, e2]
  rfl
theorem ren_ren (n : Int) (es : List Edge) : (es.map (Edge.ren n)).map (Edge.ren n) = es := by
  rw [List.map_map]
  have : (Edge.ren n ∘ Edge.ren n) = id := by
    funext e
    obtain ⟨f, t, c⟩ := e
    simp only [Function.comp, Edge.ren, id, Edge.mk.injEq, and_true]
    omega
  rw [this, List.map_id]
theorem ren_found {n s t : Int} {es : List Edge} (hv : VNet n s t es) {fl fl' : List Int} {set set' : List Bool} {v v' : Int} (h : Found n s t es fl set v) (h' : Found n (n - 1 - s) (n - 1 - t) (es.map (Edge.ren n)) fl' set' v') :
    v = v' ∧ set' = set.reverse := by
  have hb := hv.bounds
  have hv' := ren_net hv
  have l1 := h.cut.len
  have l2 := h'.cut.len
  have c1 := ren_cut hv h.cut
  have c2 : IsCut n s t set'.reverse := by
    have := ren_cut hv' h'.cut
    rw [show n - 1 - (n - 1 - s) = s by omega, show n - 1 - (n - 1 - t) = t by omega] at this
    exact this
  have k1 : capS set.reverse (es.map (Edge.ren n)) (es.map (Edge.ren n)).length = v := by rw [capS_L, ren_cap hv l1, ← capS_L]; exact h.cap
  have k2 : capS set'.reverse es es.length = v' := by
    have := ren_cap hv' l2
    rw [ren_ren] at this
    rw [capS_L, this, ← capS_L]; exact h'.cap
  have a1 := h.le_cap hv c2
  have a2 := h'.le_cap hv' c1
  rw [k2] at a1
  rw [k1] at a2
  have e : v = v' := by omega
  refine ⟨e, ?_⟩
  refine list_ins (by simp; omega) fun u => ?_
  rcases Nat.lt_or_ge u set'.length with hu | hu
  · have b1 := h'.least _ c1 (k1.trans e) u
    have b2 := h.least _ c2 (k2.trans e.symm) (set'.length - 1 - u)
    have r1 := ins_rev set' hu
    have r2 := ins_rev set (u := set'.length - 1 - u) (by omega)
    rw [show set.length - 1 - (set'.length - 1 - u) = u by omega] at r2
    rw [r1] at b2
    cases h1 : ins set' u <;> cases h2 : ins set.reverse u <;> simp_all
  · simp [ins, List.getElem?_eq_none hu, List.getElem?_eq_none (show set.reverse.length ≤ u by simp; omega)]

end Go.Proofs.Ytbddkmhpfbmcmaa
