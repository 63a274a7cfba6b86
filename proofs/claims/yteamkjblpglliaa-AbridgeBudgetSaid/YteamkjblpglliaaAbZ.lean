import Derived.Test.YteamkjblpglliaaAbV
set_option linter.unusedSimpArgs false
set_option linter.unusedVariables false
namespace Go.Proofs.Yteamkjblpglliaa
open Go.RowKit Go.SL Go.HL
theorem rJ : ∀ {X S : List Bool}, (∀ u : Nat, S.getD u false = true -> X.getD u false = true) -> je X S = false
 | [], _, _ => by simp [je]
 | _ :: _, [], _ => by simp [je]
 | x :: xs, s :: ss, h => by
  have h0 := h 0
  have hs : ∀ u : Nat, ss.getD u false = true -> xs.getD u false = true := fun u hu => by simpa using h (u + 1) (by simpa using hu)
  simp only [je]
  by_cases e : x = s
  ·rw [if_pos e]; exact rJ hs
  ·rw [if_neg e]
   cases x <;> cases s <;> simp_all
theorem tY {W C : List Int} {nd : List (List Nat)} {B : Int} {S : List Bool} (hlw : W.length = nd.length) (hc : ∀ i, 0 <= C.getD i 0) (hS : iA (dg W C 0 1) nd S) {X : List Bool} (hX : Sel C nd B X) : i7 W C nd.length X S = false := by
 have e : ∀ Y, wS (dg W C 0 1) Y nd.length = wS W Y nd.length := fun Y => by
  rw [gJ _ _ _ _ _ _ (by omega)]; omega
 have h1 := hS.most X hX.len hX.closed
 have h2 := hS.least X hX.len hX.closed
 rw [e, e] at h1
 rw [e, e] at h2
 unfold i7
 by_cases e1 : wS W X nd.length = wS W S nd.length
 ·rw [if_pos e1]
  have hsub := h2 e1
  have h3 := ni hc hsub nd.length
  by_cases e2 : wS C X nd.length = wS C S nd.length
  ·rw [if_pos e2]; exact rJ hsub
  ·rw [if_neg e2]; simp only [decide_eq_false_iff_not]; omega
 ·rw [if_neg e1]; simp only [decide_eq_false_iff_not]; omega
theorem tq {nd : List (List Nat)} {bad : List Bool} (g : Gr nd bad) : Dc nd (c6 nd nd.length 0) := by
 have hget : ∀ k, (c6 nd nd.length 0).getD k [] = if k < nd.length then fW nd nd.length k else [] := fun k => by
  by_cases h : k < nd.length
  ·rw [mH nd _ _ h, if_pos h]; simp [fq]
  ·rw [if_neg h, List.getD_eq_getElem?_getD, List.getElem?_eq_none (by rw [kl]; omega)]; rfl
 refine ⟨kl _ _ _, fun k j => ?_, fun k => ?_⟩
 ·rw [hget]
  by_cases h : k < nd.length
  ·rw [if_pos h]; simp [fW]
  ·rw [if_neg h]
   constructor
   ·intro hx; cases hx
   ·rintro ⟨_, hx⟩; exact absurd (g.lt _ _ hx) h
 ·rw [hget]
  split
  ·unfold fW
   have := List.length_filter_le (fun u => decide (k ∈ nd.getD u [])) (List.range nd.length)
   simpa using this
  ·simp
end Go.Proofs.Yteamkjblpglliaa
