/-
  OWN WORK. The reference's greatest set: all sets are tried; plainly.
-/
import Derived.Test.YtkhbiknjkffpjaaClMaxP
import Derived.Test.YtkhbiknjkffpjaaClSm
set_option linter.unusedSimpArgs false
set_option linter.unusedVariables false
namespace Go.Proofs.Ytkhbiknjkffpjaa
open Go.RowKit Go.SL

theorem bitsN_all : ∀ (X : List Bool), ∃ b, b < 2 ^ X.length ∧ bitsN b X.length = X
  | [] => ⟨0, by simp, rfl⟩
  | x :: X => by
    obtain ⟨b, hb, he⟩ := bitsN_all X
    refine ⟨2 * b + if x then 1 else 0, ?_, ?_⟩
    · rw [List.length_cons, Nat.pow_succ]
      split <;> omega
    · rw [List.length_cons]
      unfold bitsN
      cases x with
      | true => simp only [if_true]; rw [show (2 * b + 1) % 2 = 1 by omega, show (2 * b + 1) / 2 = b by omega, he]; simp
      | false => simp only [Bool.false_eq_true, if_false, Nat.add_zero]; rw [show (2 * b) % 2 = 0 by omega, show (2 * b) / 2 = b by omega, he]; simp
section
variable {w : List Int} {nd : List (List Nat)} {B : List Bool} {M : Int}
/-- The sets that have been tried. -/
def Cand (nd : List (List Nat)) (k : Nat) (X : List Bool) : Prop := X = List.replicate nd.length false ∨ ∃ j, j < k ∧ X = bitsN j nd.length ∧ ClosedN nd X
theorem Cand.len {k : Nat} {X : List Bool} (h : Cand nd k X) : X.length = nd.length := by
  rcases h with rfl | ⟨j, _, rfl, _⟩
  · simp
  · exact bitsN_len _ _
theorem closed_none (n : Nat) : ClosedN nd (List.replicate n false) := fun u hu => by
  rw [List.getD_eq_getElem?_getD, List.getElem?_replicate] at hu
  split at hu <;> simp at hu
theorem Cand.closed {k : Nat} {X : List Bool} (h : Cand nd k X) : ClosedN nd X := by
  rcases h with rfl | ⟨j, _, rfl, h⟩
  · exact closed_none _
  · exact h
theorem wS_none (w : List Int) (m : Nat) : ∀ n, wS w (List.replicate m false) n = 0
  | 0 => rfl
  | n + 1 => by
    unfold wS
    rw [wS_none w m n, List.getD_eq_getElem?_getD, List.getElem?_replicate]
    split <;> simp
structure Best (w : List Int) (nd : List (List Nat)) (k : Nat) (B : List Bool) (M : Int) : Prop where
  len : B.length = nd.length
  most : ∀ X, Cand nd k X → wS w X nd.length ≤ M
  some : ∃ X, Cand nd k X ∧ wS w X nd.length = M
  all : ∀ u : Nat, B.getD u false = true ↔ ∀ X, Cand nd k X → wS w X nd.length = M → X.getD u false = true
theorem Best.zero : Best w nd 0 (List.replicate nd.length false) 0 := by
  have hc : ∀ X, Cand nd 0 X ↔ X = List.replicate nd.length false := fun X => ⟨fun h => by
    rcases h with h | ⟨j, h, _⟩
    · exact h
    · omega, .inl⟩
  refine ⟨by simp, fun X h => ?_, ⟨_, .inl rfl, wS_none _ _ _⟩, fun u => ⟨fun h X hX _ => by rw [(hc X).1 hX]; exact h, fun h => h _ (.inl rfl) (wS_none _ _ _)⟩⟩
  rw [(hc X).1 h, wS_none]
  exact Int.le_refl _
theorem Cand.succ {k : Nat} {X : List Bool} : Cand nd (k + 1) X ↔ Cand nd k X ∨ X = bitsN k nd.length ∧ ClosedN nd X := by
  constructor
  · rintro (h | ⟨j, h1, h2, h3⟩)
    · exact .inl (.inl h)
    · by_cases e : j = k
      · subst e; exact .inr ⟨h2, h3⟩
      · exact .inl (.inr ⟨j, by omega, h2, h3⟩)
  · rintro ((h | ⟨j, h1, h2, h3⟩) | ⟨h1, h2⟩)
    · exact .inl h
    · exact .inr ⟨j, by omega, h2, h3⟩
    · exact .inr ⟨k, by omega, h1, h2⟩
theorem Best.open {k : Nat} (h : Best w nd k B M) (hn : ¬ ClosedN nd (bitsN k nd.length)) : Best w nd (k + 1) B M := by
  have hc : ∀ X, Cand nd (k + 1) X ↔ Cand nd k X := fun X => Cand.succ.trans ⟨fun h => h.elim id fun ⟨h1, h2⟩ => absurd (h1 ▸ h2) hn, .inl⟩
  obtain ⟨X, h1, h2⟩ := h.some
  exact ⟨h.len, fun X hX => h.most X ((hc X).1 hX), ⟨X, (hc X).2 h1, h2⟩, fun u => (h.all u).trans ⟨fun h X hX => h X ((hc X).1 hX), fun h X hX => h X ((hc X).2 hX)⟩⟩
theorem Best.less {k : Nat} (h : Best w nd k B M) (hl : wS w (bitsN k nd.length) nd.length < M) : Best w nd (k + 1) B M := by
  obtain ⟨X, h1, h2⟩ := h.some
  refine ⟨h.len, fun X hX => ?_, ⟨X, Cand.succ.2 (.inl h1), h2⟩, fun u => (h.all u).trans ⟨fun h X hX e => ?_, fun h X hX => h X (Cand.succ.2 (.inl hX))⟩⟩
  · rcases Cand.succ.1 hX with hX | ⟨rfl, _⟩
    · exact h.most X hX
    · omega
  · rcases Cand.succ.1 hX with hX | ⟨rfl, _⟩
    · exact h X hX e
    · omega
theorem Best.more {k : Nat} (h : Best w nd k B M) (hc : ClosedN nd (bitsN k nd.length)) (hl : M < wS w (bitsN k nd.length) nd.length) : Best w nd (k + 1) (bitsN k nd.length) (wS w (bitsN k nd.length) nd.length) := by
  have hk : Cand nd (k + 1) (bitsN k nd.length) := Cand.succ.2 (.inr ⟨rfl, hc⟩)
  refine ⟨bitsN_len _ _, fun X hX => ?_, ⟨_, hk, rfl⟩, fun u => ⟨fun hu X hX e => ?_, fun h => h _ hk rfl⟩⟩
  · rcases Cand.succ.1 hX with hX | ⟨rfl, _⟩
    · have := h.most X hX; omega
    · exact Int.le_refl _
  · rcases Cand.succ.1 hX with hX | ⟨rfl, _⟩
    · have := h.most X hX; omega
    · exact hu
theorem Best.same {k : Nat} {D : List Bool} (h : Best w nd k B M) (hc : ClosedN nd (bitsN k nd.length)) (he : wS w (bitsN k nd.length) nd.length = M) (hD : D.length = nd.length) (hg : ∀ u : Nat, D.getD u false = (B.getD u false && (bitsN k nd.length).getD u false)) : Best w nd (k + 1) D M := by
  obtain ⟨X, h1, h2⟩ := h.some
  have hk : Cand nd (k + 1) (bitsN k nd.length) := Cand.succ.2 (.inr ⟨rfl, hc⟩)
  refine ⟨hD, fun X hX => ?_, ⟨X, Cand.succ.2 (.inl h1), h2⟩, fun u => ?_⟩
  · rcases Cand.succ.1 hX with hX | ⟨rfl, _⟩
    · exact h.most X hX
    · omega
  · rw [hg, Bool.and_eq_true, h.all u]
    constructor
    · rintro ⟨h1, h2⟩ X hX e
      rcases Cand.succ.1 hX with hX | ⟨rfl, _⟩
      · exact h1 X hX e
      · exact h2
    · intro h1
      exact ⟨fun X hX => h1 X (Cand.succ.2 (.inl hX)), h1 _ hk he⟩
theorem Best.done {S : List Bool} (h : Best w nd (2 ^ nd.length) B M) (hS : MaxSet w nd S) : B = S ∧ M = wS w S nd.length := by
  have hall : ∀ X : List Bool, X.length = nd.length → ClosedN nd X → Cand nd (2 ^ nd.length) X := fun X hl hc => by
    obtain ⟨b, hb, he⟩ := bitsN_all X
    rw [hl] at hb he
    exact .inr ⟨b, hb, he.symm, hc⟩
  have hM : M = wS w S nd.length := by
    obtain ⟨X, h1, h2⟩ := h.some
    have a := hS.most X h1.len h1.closed
    have b := h.most S (hall S hS.len hS.closed)
    omega
  refine ⟨?_, hM⟩
  have hu : ∀ u : Nat, B.getD u false = true ↔ S.getD u false = true := fun u => (h.all u).trans ⟨fun h => h S (hall S hS.len hS.closed) hM.symm, fun hu X hX e => hS.least X hX.len hX.closed (by rw [e, hM]) u hu⟩
  apply List.ext_getElem
  · rw [h.len, hS.len]
  · intro i h1 h2
    have := hu i
    rw [List.getD_eq_getElem?_getD, List.getElem?_eq_getElem h1, List.getD_eq_getElem?_getD, List.getElem?_eq_getElem h2, Option.getD_some, Option.getD_some] at this
    exact Bool.eq_iff_iff.2 this
end

end Go.Proofs.Ytkhbiknjkffpjaa
