/-
  OWN WORK. Plain facts: greater capacities.
-/
import Derived.Test.YtbddkmhpfbmcmaaFlNumP
set_option linter.unusedSimpArgs false
set_option linter.unusedVariables false
namespace Go.Proofs.Ytbddkmhpfbmcmaa
open Go.RowKit Go.SL

theorem capL_nn {D : List Bool} {es : List Edge} (h : ∀ e ∈ es, 0 ≤ e.c) : 0 ≤ capL D es := by
  induction es with
  | nil => exact Int.le_refl 0
  | cons e r ih =>
    have := ih fun e he => h e (List.mem_cons_of_mem _ he)
    have h0 := h e (by simp)
    simp only [capL, List.map_cons, List.sum_cons] at this ⊢
    split <;> omega
theorem capL_le {D : List Bool} {es : List Edge} {b : Int} (h : ∀ e ∈ es, 0 ≤ e.c ∧ e.c ≤ b) : capL D es ≤ es.length * b := by
  induction es with
  | nil => simp [capL]
  | cons e r ih =>
    have := ih fun e he => h e (List.mem_cons_of_mem _ he)
    have h0 := h e (by simp)
    simp only [capL, List.map_cons, List.sum_cons, List.length_cons] at this ⊢
    have e1 : ((r.length + 1 : Nat) : Int) * b = r.length * b + b := by push_cast; rw [Int.add_mul, Int.one_mul]
    rw [e1]
    split <;> omega
/-- The capacity of an edge, multiplied; that of one edge, increased. -/
def Edge.mulc (m : Int) (e : Edge) : Edge := ⟨e.f, e.t, m * e.c⟩
def Edge.addc (d : Int) (e : Edge) : Edge := ⟨e.f, e.t, e.c + d⟩
def Edge.modc (e : Edge) : Edge := ⟨e.f, e.t, e.c % 1001⟩
theorem capL_mul (D : List Bool) (m : Int) (es : List Edge) : capL D (es.map (Edge.mulc m)) = m * capL D es := by
  induction es with
  | nil => simp [capL]
  | cons e r ih =>
    simp only [capL, List.map_cons, List.sum_cons] at ih ⊢
    rw [ih, Int.mul_add]
    have : crossB D (Edge.mulc m e) = crossB D e := rfl
    rw [this]
    split
    · rfl
    · simp
theorem capL_add (D : List Bool) (d : Int) (hd : 0 ≤ d) (es : List Edge) (k : Nat) : capL D es ≤ capL D (es.set k ((es.getD k default).addc d)) ∧ capL D (es.set k ((es.getD k default).addc d)) ≤ capL D es + d := by
  induction es generalizing k with
  | nil => simp [capL]; omega
  | cons e r ih =>
    cases k with
    | zero =>
      simp only [List.set_cons_zero, List.getD_cons_zero, capL, List.map_cons, List.sum_cons]
      have : crossB D (Edge.addc d e) = crossB D e := rfl
      rw [this]
      have e2 : (Edge.addc d e).c = e.c + d := rfl
      rw [e2]
      split <;> omega
    | succ k =>
      have := ih k
      simp only [List.set_cons_succ, List.getD_cons_succ, capL, List.map_cons, List.sum_cons] at this ⊢
      omega
theorem net_caps {n s t : Int} {es es' : List Edge} (hv : VNet n s t es) (hl : es'.length = es.length) (h : ∀ e ∈ es', ∃ e0 ∈ es, e.f = e0.f ∧ e.t = e0.t ∧ 0 ≤ e.c ∧ e.c ≤ 1099511627776) : VNet n s t es' := by
  refine ⟨hv.n2, hv.n258, hv.s0, hv.sn, hv.t0, hv.tn, hv.st, by have := hv.len; omega, fun e he => ?_⟩
  obtain ⟨e0, h0, h1, h2, h3, h4⟩ := h e he
  obtain ⟨a1, a2, a3, a4, a5, _, _⟩ := hv.all e0 h0
  exact ⟨by omega, by omega, by omega, by omega, by omega, h3, h4⟩
theorem net_mod {n s t : Int} {es : List Edge} (hv : VNet n s t es) : VNet n s t (es.map Edge.modc) := by
  refine net_caps hv (by simp) fun e he => ?_
  obtain ⟨e0, h0, rfl⟩ := List.mem_map.1 he
  exact ⟨e0, h0, rfl, rfl, by simp only [Edge.modc]; omega, by simp only [Edge.modc]; omega⟩
theorem mod_caps (es : List Edge) : ∀ e ∈ es.map Edge.modc, 0 ≤ e.c ∧ e.c ≤ 1000 := by
  intro e he
  obtain ⟨e0, h0, rfl⟩ := List.mem_map.1 he
  simp only [Edge.modc]; omega
theorem net_add {n s t : Int} {es : List Edge} (hv : VNet n s t es) (hc : ∀ e ∈ es, 0 ≤ e.c ∧ e.c ≤ 1000) {d : Int} (h0 : 0 ≤ d) (h1 : d ≤ 1000) {k : Nat} (hk : k < es.length) : VNet n s t (es.set k ((es.getD k default).addc d)) := by
  refine net_caps hv (by simp) fun e he => ?_
  rcases List.mem_or_eq_of_mem_set he with h | rfl
  · have := hc e h
    exact ⟨e, h, rfl, rfl, by omega, by omega⟩
  · have hm : es.getD k default ∈ es := by
      have : es.getD k default = es[k] := by simp [hk]
      rw [this]; exact List.getElem_mem hk
    have := hc _ hm
    exact ⟨_, hm, rfl, rfl, by simp only [Edge.addc]; omega, by simp only [Edge.addc]; omega⟩
theorem mul_bd {m c : Int} (h0 : 0 ≤ m) (h1 : m ≤ 1000) (h2 : 0 ≤ c) (h3 : c ≤ 1000) : 0 ≤ m * c ∧ m * c ≤ 1000000 := by
  refine ⟨Int.mul_nonneg h0 h2, ?_⟩
  have := Int.mul_le_mul h1 h3 h2 (by omega : (0 : Int) ≤ 1000)
  omega
theorem net_mul {n s t : Int} {es : List Edge} (hv : VNet n s t es) (hc : ∀ e ∈ es, 0 ≤ e.c ∧ e.c ≤ 1000) {m : Int} (h0 : 0 ≤ m) (h1 : m ≤ 1000) : VNet n s t (es.map (Edge.mulc m)) := by
  refine net_caps hv (by simp) fun e he => ?_
  obtain ⟨e0, h2, rfl⟩ := List.mem_map.1 he
  have := hc e0 h2
  have b := mul_bd h0 h1 this.1 this.2
  exact ⟨e0, h2, rfl, rfl, b.1, by have := b.2; simp only [Edge.mulc]; omega⟩
theorem add_found {n s t : Int} {es : List Edge} (hv : VNet n s t es) (hc : ∀ e ∈ es, 0 ≤ e.c ∧ e.c ≤ 1000) {d : Int} (h0 : 0 ≤ d) (h1 : d ≤ 1000) {k : Nat} (hk : k < es.length) {fl fl' : List Int} {set set' : List Bool} {v v' : Int}
    (h : Found n s t es fl set v) (h' : Found n s t (es.set k ((es.getD k default).addc d)) fl' set' v') : v ≤ v' ∧ v' ≤ v + d := by
  have hv' := net_add hv hc h0 h1 hk
  have a1 := h.le_cap hv h'.cut
  have a2 := h'.le_cap hv' h.cut
  have k1 := h.cap
  have k2 := h'.cap
  rw [capS_L] at a1 a2 k1 k2
  have b1 := capL_add set d h0 es k
  have b2 := capL_add set' d h0 es k
  omega
theorem found_bd {n s t : Int} {es : List Edge} {b : Int} (hc : ∀ e ∈ es, 0 ≤ e.c ∧ e.c ≤ b) {fl : List Int} {set : List Bool} {v : Int} (h : Found n s t es fl set v) : 0 ≤ v ∧ v ≤ es.length * b := by
  have k1 := h.cap
  rw [capS_L] at k1
  have b1 := capL_nn (D := set) fun e he => (hc e he).1
  have b2 := capL_le (D := set) hc
  omega
theorem mul_found {n s t : Int} {es : List Edge} (hv : VNet n s t es) (hc : ∀ e ∈ es, 0 ≤ e.c ∧ e.c ≤ 1000) {m : Int} (h0 : 0 ≤ m) (h1 : m ≤ 1000) {fl fl' : List Int} {set set' : List Bool} {v v' : Int}
    (h : Found n s t es fl set v) (h' : Found n s t (es.map (Edge.mulc m)) fl' set' v') : v' = m * v ∧ (m ≠ 0 → set' = set) := by
  have hv' := net_mul hv hc h0 h1
  have a1 := h.le_cap hv h'.cut
  have a2 := h'.le_cap hv' h.cut
  have k1 := h.cap
  have k2 := h'.cap
  rw [capS_L] at a1 a2 k1 k2
  rw [capL_mul, k1] at a2
  rw [capL_mul] at k2
  have a3 : m * v ≤ m * capL set' es := Int.mul_le_mul_of_nonneg_left a1 h0
  have e : v' = m * v := by omega
  refine ⟨e, fun hm => ?_⟩
  have e2 : capL set' es = v := Int.eq_of_mul_eq_mul_left hm (by omega)
  have l1 := h.cut.len
  have l2 := h'.cut.len
  refine list_ins (by omega) fun u => ?_
  have b1 := h.least set' h'.cut (by rw [capS_L]; exact e2) u
  have b2 := h'.least set h.cut (by rw [capS_L, capL_mul, k1]; exact e.symm) u
  cases x1 : ins set u <;> cases x2 : ins set' u <;> simp_all

end Go.Proofs.Ytbddkmhpfbmcmaa
