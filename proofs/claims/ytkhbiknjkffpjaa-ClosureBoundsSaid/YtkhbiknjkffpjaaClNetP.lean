/-
  OWN WORK. Several small texts in one.
-/
import Derived.Test.YtkhbiknjkffpjaaFlCut
import Derived.Test.YtkhbiknjkffpjaaGrPlain
import Derived.Test.YtkhbiknjkffpjaaGrV
section
set_option linter.unusedSimpArgs false
set_option linter.unusedVariables false
namespace Go.Proofs.Ytkhbiknjkffpjaa
open Go.RowKit Go.SL

theorem Found.le_cap {n s t : Int} {es : List Edge} (hv : VNet n s t es) {fl : List Int} {set : List Bool} {v : Int} (h : Found n s t es fl set v) {D : List Bool} (hD : IsCut n s t D) : v ≤ capS D es es.length := by
  have := weak_duality hv h.flow hD
  rw [h.val] at this
  exact this
theorem Found.val_eq {n s t : Int} {es : List Edge} (hv : VNet n s t es) {fl fl' : List Int} {set set' : List Bool} {v v' : Int} (h : Found n s t es fl set v) (h' : Found n s t es fl' set' v') : v = v' := by
  have h1 := h.le_cap hv h'.cut
  have h2 := h'.le_cap hv h.cut
  rw [h'.cap] at h1
  rw [h.cap] at h2
  omega
theorem list_ins {a b : List Bool} (hl : a.length = b.length) (h : ∀ v, ins a v = ins b v) : a = b := by
  apply List.ext_getElem hl
  intro i h1 h2
  have := h i
  simpa [ins, h1, h2] using this
theorem Found.set_eq {n s t : Int} {es : List Edge} (hv : VNet n s t es) {fl fl' : List Int} {set set' : List Bool} {v v' : Int} (h : Found n s t es fl set v) (h' : Found n s t es fl' set' v') : set = set' := by
  have e := h.val_eq hv h'
  have l1 := h.cut.len
  have l2 := h'.cut.len
  refine list_ins (by omega) fun u => ?_
  have a1 := h.least set' h'.cut (h'.cap.trans e.symm) u
  have a2 := h'.least set h.cut (h.cap.trans e) u
  cases h1 : ins set u <;> cases h2 : ins set' u <;> simp_all

theorem getD_setI (l : List Int) (i j : Nat) (x : Int) (hi : i < l.length) : (l.set i x).getD j 0 = if i = j then x else l.getD j 0 := by
  simp only [List.getD_eq_getElem?_getD, List.getElem?_set]
  split
  · rename_i h; subst h; simp [hi]
  · rfl

end Go.Proofs.Ytkhbiknjkffpjaa
end
section
set_option linter.unusedSimpArgs false
set_option linter.unusedVariables false
namespace Go.Proofs.Ytkhbiknjkffpjaa
open Go.RowKit Go.SL

/-- The edges of the first nodes' weights. -/
def wEdge (n : Nat) (i : Nat) (x : Int) : List Edge := if 0 < x then [⟨n, i, x⟩] else if x < 0 then [⟨i, (n : Int) + 1, -x⟩] else []
def wEdges (n : Nat) (w : List Int) : Nat → List Edge
  | 0 => []
  | k + 1 => wEdges n w k ++ wEdge n k (w.getD k 0)
def nEdge (i j : Nat) : List Edge := if j = i then [] else [⟨i, j, 1099511627776⟩]
def rEdges (i : Nat) (row : List Nat) : Nat → List Edge
  | 0 => []
  | k + 1 => rEdges i row k ++ nEdge i (row.getD k 0)
def nEdges (nd : List (List Nat)) : Nat → List Edge
  | 0 => []
  | k + 1 => nEdges nd k ++ rEdges k (nd.getD k []) (nd.getD k []).length
def netE (w : List Int) (nd : List (List Nat)) : List Edge := wEdges nd.length w nd.length ++ nEdges nd nd.length
/-- Weights in range. -/
def WOK (w : List Int) : Prop := ∀ i, -2147483648 ≤ w.getD i 0 ∧ w.getD i 0 ≤ 2147483648
section
variable {w : List Int} {nd : List (List Nat)} {bad : List Bool} {n : Nat}
theorem wEdges_len (n : Nat) (w : List Int) : ∀ k, (wEdges n w k).length ≤ k
  | 0 => by simp [wEdges]
  | k + 1 => by
    have := wEdges_len n w k
    simp only [wEdges, List.length_append, wEdge]
    split
    · simp; omega
    · split <;> simp <;> omega
theorem rEdges_len0 (i : Nat) (row : List Nat) : ∀ k, (rEdges i row k).length ≤ k
  | 0 => by simp [rEdges]
  | k + 1 => by
    have := rEdges_len0 i row k
    simp only [rEdges, List.length_append, nEdge]
    split <;> simp <;> omega
theorem mem_rEdges {i : Nat} {row : List Nat} {e : Edge} : ∀ {k}, k ≤ row.length → (e ∈ rEdges i row k ↔ ∃ q, q < k ∧ row.getD q 0 ≠ i ∧ e = ⟨i, row.getD q 0, 1099511627776⟩)
  | 0, _ => by simp [rEdges]
  | k + 1, h => by
    have ih := mem_rEdges (i := i) (row := row) (e := e) (k := k) (by omega)
    simp only [rEdges, List.mem_append, ih, nEdge]
    constructor
    · rintro (⟨q, h1, h2, h3⟩ | h1)
      · exact ⟨q, by omega, h2, h3⟩
      · split at h1
        · cases h1
        · rename_i hne
          exact ⟨k, by omega, hne, by simpa using h1⟩
    · rintro ⟨q, h1, h2, h3⟩
      by_cases hq : q = k
      · subst hq; right; rw [if_neg h2, h3]; simp
      · exact .inl ⟨q, by omega, h2, h3⟩
theorem mem_nEdges {e : Edge} : ∀ {k}, e ∈ nEdges nd k ↔ ∃ i j, i < k ∧ j ∈ nd.getD i [] ∧ j ≠ i ∧ e = ⟨i, j, 1099511627776⟩
  | 0 => by simp [nEdges]
  | k + 1 => by
    have ih := mem_nEdges (e := e) (k := k)
    simp only [nEdges, List.mem_append, ih, mem_rEdges (Nat.le_refl _)]
    constructor
    · rintro (⟨i, j, h1, h2⟩ | ⟨q, h1, h2, h3⟩)
      · exact ⟨i, j, by omega, h2⟩
      · exact ⟨k, _, by omega, getD_mem _ q 0 h1, h2, h3⟩
    · rintro ⟨i, j, h1, h2, h3, h4⟩
      by_cases hi : i = k
      · subst hi
        obtain ⟨q, hq, rfl⟩ := mem_getD 0 h2
        exact .inr ⟨q, hq, h3, h4⟩
      · exact .inl ⟨i, j, by omega, h2, h3, h4⟩
theorem mem_wEdges {e : Edge} : ∀ {k}, e ∈ wEdges n w k ↔ ∃ i, i < k ∧ (0 < w.getD i 0 ∧ e = ⟨n, i, w.getD i 0⟩ ∨ w.getD i 0 < 0 ∧ e = ⟨i, (n : Int) + 1, -(w.getD i 0)⟩)
  | 0 => by simp [wEdges]
  | k + 1 => by
    have ih := mem_wEdges (e := e) (k := k)
    simp only [wEdges, List.mem_append, ih, wEdge]
    constructor
    · rintro (⟨i, h1, h2⟩ | h1)
      · exact ⟨i, by omega, h2⟩
      · split at h1
        · rename_i hp; exact ⟨k, by omega, .inl ⟨hp, by simpa using h1⟩⟩
        · split at h1
          · rename_i hp; exact ⟨k, by omega, .inr ⟨hp, by simpa using h1⟩⟩
          · cases h1
    · rintro ⟨i, h1, h2⟩
      by_cases hi : i = k
      · subst hi
        right
        rcases h2 with ⟨h2, h3⟩ | ⟨h2, h3⟩
        · rw [if_pos h2, h3]; simp
        · rw [if_neg (by omega), if_pos h2, h3]; simp
      · exact .inl ⟨i, by omega, h2⟩
theorem rEdges_len (i n : Nat) (row : List Nat) (hs : row.Pairwise (· < ·)) (hlt : ∀ x ∈ row, x < n) (hi : i < n) : (rEdges i row row.length).length + 1 ≤ n := by
  -- the nodes of the edges, with i, are different
  have key : ∀ k, k ≤ row.length → (rEdges i row k).length = ((row.take k).filter fun x => decide (x ≠ i)).length := by
    intro k
    induction k with
    | zero => intro _; simp [rEdges]
    | succ k ih =>
      intro hk
      have ih := ih (by omega)
      rw [List.take_succ_eq_append_getElem (show k < row.length by omega), List.filter_append, List.length_append, ← ih]
      simp only [rEdges, List.length_append, nEdge]
      have e : row.getD k 0 = row[k] := by simp [show k < row.length by omega]
      rw [e]
      by_cases h : row[k] = i
      · simp [h]
      · simp [h]
  have h1 := key row.length (Nat.le_refl _)
  rw [List.take_length] at h1
  have hnd : (i :: (row.filter fun x => decide (x ≠ i))).Nodup := by
    rw [List.nodup_cons]
    refine ⟨by simp, ?_⟩
    exact List.Pairwise.filter _ (hs.imp fun h => by omega)
  have := nodup_lt_len hnd (n := n) (fun u hu => by
    rcases List.mem_cons.1 hu with rfl | hu
    · exact hi
    · exact hlt u (List.mem_filter.1 hu).1)
  rw [List.length_cons] at this
  omega
theorem nEdges_len (g : Gr nd bad) : ∀ k, k ≤ nd.length → (nEdges nd k).length + k ≤ k * nd.length
  | 0, _ => by simp [nEdges]
  | k + 1, h => by
    have ih := nEdges_len g k (by omega)
    have := rEdges_len k nd.length (nd.getD k []) (g.sorted k) (g.lt k) (by omega)
    simp only [nEdges, List.length_append]
    rw [Nat.succ_mul]
    omega
theorem netE_len (g : Gr nd bad) (w : List Int) : (netE w nd).length ≤ nd.length * nd.length := by
  have h1 := wEdges_len nd.length w nd.length
  have h2 := nEdges_len g nd.length (Nat.le_refl _)
  unfold netE
  rw [List.length_append]
  omega
theorem netE_ok (g : Gr nd bad) (hw : WOK w) : VNet ((nd.length : Int) + 2) nd.length ((nd.length : Int) + 1) (netE w nd) := by
  have hsz := g.size
  have hlen := netE_len g w
  have : nd.length * nd.length ≤ 256 * 256 := Nat.mul_le_mul hsz hsz
  refine ⟨by omega, by omega, by omega, by omega, by omega, by omega, by omega, by omega, fun e he => ?_⟩
  unfold netE at he
  rcases List.mem_append.1 he with he | he
  · obtain ⟨i, hi, ⟨h1, rfl⟩ | ⟨h1, rfl⟩⟩ := mem_wEdges.1 he
    · have := hw i
      exact ⟨by simp only; omega, by simp only; omega, by simp only; omega, by simp only; omega, by simp only; omega, by simp only; omega, by simp only; omega⟩
    · have := hw i
      exact ⟨by simp only; omega, by simp only; omega, by simp only; omega, by simp only; omega, by simp only; omega, by simp only; omega, by simp only; omega⟩
  · obtain ⟨i, j, h1, h2, h3, rfl⟩ := mem_nEdges.1 he
    have := g.lt i j h2
    exact ⟨by simp only; omega, by simp only; omega, by simp only; omega, by simp only; omega, by simp only; omega, by simp only; omega, by simp only; omega⟩
end

end Go.Proofs.Ytkhbiknjkffpjaa
end
