/-
  OWN WORK. The law's example, worked out.
-/
import Derived.Test.YtbddkmhpfbmcmaaFlSmall
import Derived.Test.YtbddkmhpfbmcmaaFlCut
import Derived.Test.YtbddkmhpfbmcmaaFlCheck
set_option linter.unusedSimpArgs false
set_option linter.unusedVariables false
namespace Go.Proofs.Ytbddkmhpfbmcmaa
open Go.RowKit Go.SL

theorem vex : VNet ((4 : Nat) : Int) ((0 : Nat) : Int) ((3 : Nat) : Int) exL := by
  refine ⟨by decide, by decide, by decide, by decide, by decide, by decide, by decide, by decide, ?_⟩
  intro e he
  simp only [exL, List.mem_cons, List.not_mem_nil, or_false] at he
  rcases he with rfl | rfl | rfl | rfl | rfl <;> (unfold VEdge; decide)

theorem list4 {α : Type} {l : List α} (h : l.length = 4) : ∃ a b c d, l = [a, b, c, d] := by
  match l, h with
  | [a, b, c, d], _ => exact ⟨a, b, c, d, rfl⟩
theorem list5 {α : Type} {l : List α} (h : l.length = 5) : ∃ a b c d e, l = [a, b, c, d, e] := by
  match l, h with
  | [a, b, c, d, e], _ => exact ⟨a, b, c, d, e, rfl⟩

theorem ex_cut : IsCut ((4 : Nat) : Int) ((0 : Nat) : Int) ((3 : Nat) : Int) [true, false, false, false] := ⟨by decide, by decide, by decide⟩

theorem ex_capS (b c : Bool) : capS [true, b, c, false] exL 5 = (if b then 0 else 3) + (if c then 0 else 2) + (if b then 2 else 0) + (if c then 4 else 0) + (if b && !c then 1 else 0) := by
  cases b <;> cases c <;> decide

theorem ex_found {fl : List Int} {set : List Bool} {value : Int} (H : Found ((4 : Nat) : Int) ((0 : Nat) : Int) ((3 : Nat) : Int) exL fl set value) : value = 5 ∧ fl = [3, 2, 2, 3, 1] ∧ set = [true, false, false, false] := by
  obtain ⟨a, b, c, d, rfl⟩ := list4 (l := set) (by have := H.cut.len; omega)
  have h1 := H.cut.src
  have h2 := H.cut.snk
  simp [ins] at h1 h2
  subst h1 h2
  have hc := H.cap
  have hv := H.val
  have hvle : value ≤ 5 := by
    have := weak_duality vex H.flow ex_cut
    rw [H.val] at this
    exact Int.le_trans this (by decide)
  have hvge : 5 ≤ value := by
    rw [show exL.length = 5 from rfl, ex_capS] at hc
    cases b <;> cases c <;> simp at hc <;> omega
  obtain rfl : value = 5 := by omega
  refine ⟨rfl, ?_, ?_⟩
  · obtain ⟨f0, f1, f2, f3, f4, rfl⟩ := list5 (l := fl) H.flow.len
    have k0 := H.flow.ok 0 (by decide)
    have k1 := H.flow.ok 1 (by decide)
    have k2 := H.flow.ok 2 (by decide)
    have k3 := H.flow.ok 3 (by decide)
    have k4 := H.flow.ok 4 (by decide)
    have b1 := H.flow.bal 1 (by decide) (by decide) (by decide)
    have b2 := H.flow.bal 2 (by decide) (by decide) (by decide)
    simp [exL] at k0 k1 k2 k3 k4
    simp [exL, balE] at b1 b2 hv
    have e0 : f0 = 3 := by omega
    have e1 : f1 = 2 := by omega
    have e2 : f2 = 2 := by omega
    have e3 : f3 = 3 := by omega
    have e4 : f4 = 1 := by omega
    rw [e0, e1, e2, e3, e4]
  · have hl := H.least _ ex_cut (by decide)
    have hb := hl 1
    have hc := hl 2
    simp [ins] at hb hc
    simp [hb, hc]

theorem ex_ok (fl : List Int) (h : ∀ j, j < 5 → 0 ≤ fl.getD j 0 ∧ fl.getD j 0 ≤ (exL.getD j default).c) : okTo exL fl exL.length := h

theorem ex_check1 {r x : Int} (h : CheckR 4 ((0 : Nat) : Int) ((3 : Nat) : Int) exL [2, 0, 2, 0, 0] r x) : r = 2 ∧ x = 0 := by
  refine h.eq (.inr (.inr ⟨ex_ok _ (by decide), ?_, by decide, rfl⟩))
  rw [show nets 4 exL [2, 0, 2, 0, 0] exL.length = [2, 0, 0, -2] from by decide]
  rintro ⟨v, h1, h2, h3, h4⟩
  have : v = 1 ∨ v = 2 := by omega
  rcases this with rfl | rfl <;> simp at h4

theorem ex_check2 {r x : Int} (h : CheckR 4 ((0 : Nat) : Int) ((3 : Nat) : Int) exL [2, 0, 1, 0, 0] r x) : r = 0 ∧ x = 24 := by
  refine h.eq (.inr (.inl ⟨ex_ok _ (by decide), ?_, rfl, rfl⟩))
  rw [show nets 4 exL [2, 0, 1, 0, 0] exL.length = [2, -1, 0, -1] from by decide]
  exact ⟨1, by decide, by decide, by decide, by decide⟩

theorem ex_check3 {r x : Int} (h : CheckR 4 ((0 : Nat) : Int) ((3 : Nat) : Int) exL [4, 0, 2, 0, 0] r x) : r = 0 ∧ x = 5 := by
  refine h.eq (.inl ⟨fun h => ?_, rfl, rfl⟩)
  have := (h 0 (by decide)).2
  simp [exL] at this

theorem ex_acr1 : acrossW 4 exL [true, true, false, false] = 5 := by unfold acrossW; rw [if_pos (by decide), acrW_capS vex]; decide
theorem ex_acr2 : acrossW 4 exL [true, true, true, false] = 6 := by unfold acrossW; rw [if_pos (by decide), acrW_capS vex]; decide

end Go.Proofs.Ytbddkmhpfbmcmaa
