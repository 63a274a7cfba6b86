/-
  OWN WORK. Graphs in the value language; which are valid: the program's and the reference's answer.
-/
import Derived.Test.YtjlidhijnohkbaaGrPlain
set_option linter.unusedSimpArgs false
set_option linter.unusedVariables false
namespace Go.Proofs.Ytjlidhijnohkbaa
open Go.RowKit Go.HL

/-- Lists of lists of numbers. -/
def rowsI (l : List (List Int)) : List HV := l.map fun r => .sl r.length (HL.ints r)
def Gs (l : List (List Int)) : HV := .sl l.length (rowsI l)
theorem rowsI_len (l : List (List Int)) : (rowsI l).length = l.length := by simp [rowsI]
theorem rowsI_get (l : List (List Int)) {i : Nat} (h : i < l.length) : (rowsI l).getD i .dead = .sl (l.getD i []).length (HL.ints (l.getD i [])) := by simp [rowsI, h]
theorem rowsI_strip (l : List (List Int)) : stripL (rowsI l) = rowsI l := by
  induction l with
  | nil => rfl
  | cons a l ih => unfold rowsI at ih ⊢; simp only [List.map_cons, stripL, HV.strip, HL.ints_strip, ih]
theorem rowsI_win (l : List (List Int)) {n : Nat} (h : n = l.length) : win (rowsI l) 0 n = rowsI l := win_all _ (by rw [rowsI_len]; exact h)
attribute [go_sem] rowsI_get rowsI_len rowsI_win

/-- Nodes as numbers. -/
def nl (l : List Nat) : List Int := l.map fun x : Nat => (x : Int)
theorem ggetD_lt {α : Type} {l : List α} {k : Nat} {d : α} (h : k < l.length) : l.getD k d = l[k] := by simp [h]
theorem nl_len (l : List Nat) : (nl l).length = l.length := by simp [nl]
theorem nl_get (l : List Nat) (i : Nat) : (nl l).getD i 0 = ((l.getD i 0 : Nat) : Int) := by
  unfold nl
  by_cases h : i < l.length
  · simp [h]
  · simp [List.getElem?_eq_none (Nat.le_of_not_lt h)]
theorem nl_snoc (l : List Nat) (i : Nat) : nl l ++ [(i : Int)] = nl (l ++ [i]) := by simp [nl]
attribute [go_sem] nl_len nl_get nl_snoc
theorem nl_getD (nd : List (List Nat)) (i : Nat) : (nd.map nl).getD i [] = nl (nd.getD i []) := by
  by_cases h : i < nd.length
  · simp [h]
  · simp [List.getElem?_eq_none (Nat.le_of_not_lt h), nl]

/-- A valid graph, in numbers. -/
def okN (needs : List (List Int)) (i k : Nat) : Prop := 0 ≤ (needs.getD i []).getD k 0 ∧ (needs.getD i []).getD k 0 < needs.length ∧ (0 < k → (needs.getD i []).getD (k - 1) 0 < (needs.getD i []).getD k 0)
structure VG (needs : List (List Int)) (bad : List Bool) : Prop where
  size : needs.length ≤ 256
  bads : bad.length = needs.length
  ok : ∀ i, i < needs.length → ∀ k, k < (needs.getD i []).length → okN needs i k
theorem VG.gr {needs : List (List Int)} {bad : List Bool} (h : VG needs bad) : ∃ nd : List (List Nat), needs = nd.map nl ∧ Gr nd bad := by
  have hn : ∀ l : List Int, (∀ k, k < l.length → 0 ≤ l.getD k 0) → nl (l.map Int.toNat) = l := by
    intro l hl
    unfold nl
    rw [List.map_map]
    conv => rhs; rw [← List.map_id l]
    apply List.map_congr_left
    intro x hx
    obtain ⟨k, hk, rfl⟩ := mem_getD 0 hx
    have := hl k hk
    simp only [Function.comp, id]
    omega
  refine ⟨needs.map (·.map Int.toNat), ?_, ?_, ?_, ?_, ?_⟩
  · rw [List.map_map]
    conv => lhs; rw [← List.map_id needs]
    apply List.map_congr_left
    intro l hl
    obtain ⟨i, hi, rfl⟩ := mem_getD [] hl
    exact (hn _ fun k hk => (h.ok i hi k hk).1).symm
  · simpa using h.size
  · simpa using h.bads
  · intro i j hj
    by_cases hi : i < needs.length
    · have e : (needs.map (·.map Int.toNat)).getD i [] = (needs.getD i []).map Int.toNat := by simp [hi]
      rw [e] at hj
      obtain ⟨x, hx, rfl⟩ := List.mem_map.1 hj
      obtain ⟨k, hk, rfl⟩ := mem_getD 0 hx
      have := (h.ok i hi k hk).2.1
      have := (h.ok i hi k hk).1
      simp only [List.length_map]
      omega
    · have e : (needs.map (·.map Int.toNat)).getD i [] = [] := by simp [List.getElem?_eq_none (Nat.le_of_not_lt hi)]
      rw [e] at hj; cases hj
  · intro i
    by_cases hi : i < needs.length
    · have e : (needs.map (·.map Int.toNat)).getD i [] = (needs.getD i []).map Int.toNat := by simp [hi]
      rw [e]
      have step : ∀ k, k + 1 < (needs.getD i []).length → (needs.getD i []).getD k 0 < (needs.getD i []).getD (k + 1) 0 := fun k hk => by
        have := (h.ok i hi (k + 1) hk).2.2 (by omega)
        simpa using this
      have mono : ∀ (d k : Nat), k + d + 1 < (needs.getD i []).length → (needs.getD i []).getD k 0 < (needs.getD i []).getD (k + d + 1) 0 := by
        intro d
        induction d with
        | zero => intro k hk; exact step k hk
        | succ d ih =>
          intro k hk
          have a := ih k (by omega)
          have b := step (k + d + 1) (by omega)
          have e : k + (d + 1) + 1 = k + d + 1 + 1 := by omega
          rw [e]; omega
      rw [List.pairwise_iff_getElem]
      intro a b ha hb hab
      simp only [List.length_map] at ha hb
      simp only [List.getElem_map]
      have h1 := mono (b - a - 1) a (by omega)
      have e1 : a + (b - a - 1) + 1 = b := by omega
      rw [e1] at h1
      have ea : (needs.getD i []).getD a 0 = (needs.getD i [])[a] := ggetD_lt ha
      have eb : (needs.getD i []).getD b 0 = (needs.getD i [])[b] := ggetD_lt hb
      rw [ea, eb] at h1
      have h0 := (h.ok i hi a ha).1
      rw [ea] at h0
      omega
    · have e : (needs.map (·.map Int.toNat)).getD i [] = [] := by simp [List.getElem?_eq_none (Nat.le_of_not_lt hi)]
      rw [e]; exact .nil
theorem Gr.vg {nd : List (List Nat)} {bad : List Bool} (g : Gr nd bad) : VG (nd.map nl) bad := by
  refine ⟨by simpa using g.size, by simpa using g.bads, fun i hi k hk => ?_⟩
  simp only [List.length_map] at hi
  rw [nl_getD, nl_len] at hk
  simp only [okN, nl_getD, nl_get, List.length_map]
  have h1 := g.lt i _ (getD_mem (nd.getD i []) k 0 hk)
  refine ⟨by omega, by omega, fun h0 => ?_⟩
  have := List.pairwise_iff_getElem.1 (g.sorted i) (k - 1) k (by omega) hk (by omega)
  have ea : (nd.getD i []).getD (k - 1) 0 = (nd.getD i [])[k - 1] := ggetD_lt (by omega)
  have eb : (nd.getD i []).getD k 0 = (nd.getD i [])[k] := ggetD_lt hk
  rw [ea, eb]; omega

end Go.Proofs.Ytjlidhijnohkbaa
