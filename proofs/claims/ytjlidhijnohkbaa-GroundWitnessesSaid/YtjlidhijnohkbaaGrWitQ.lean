/-
  OWN WORK. Witnesses of the program, plainly: they are witnesses, and no longer than they need be.
-/
import Derived.Test.YtjlidhijnohkbaaGrWitn
set_option linter.unusedSimpArgs false
set_option linter.unusedVariables false
namespace Go.Proofs.Ytjlidhijnohkbaa

section
variable {nd : List (List Nat)} {bad : List Bool} {ds ds' : List (List Int)} {round round' rank : List Int} {i j : Nat} {total : Int} {path : List Nat}
theorem IsDist.le_ {a b : List Int} (ha : IsDist nd bad i a) (hb : IsDist nd bad i b) : ∀ (m x : Nat), x < nd.length → a.getD x 0 = m → 0 ≤ b.getD x 0 ∧ b.getD x 0 ≤ m := by
  intro m
  induction m with
  | zero => intro x hx e; have := (hb.zero x hx).2 ((ha.zero x hx).1 e); omega
  | succ m ih =>
    intro x hx e
    obtain ⟨k, hk, h1, h2, h3, h4⟩ := ha.par x hx (by omega)
    obtain ⟨a1, a2⟩ := ih k hk (by omega)
    have := hb.cl k hk a1 h1 x h2
    omega
theorem IsDist.unique {a b : List Int} (ha : IsDist nd bad i a) (hb : IsDist nd bad i b) : a = b := by
  apply List.ext_getElem
  · rw [ha.len, hb.len]
  · intro x h1 h2
    have hx : x < nd.length := by rw [← ha.len]; exact h1
    have e1 : a.getD x 0 = a[x] := by simp [h1]
    have e2 : b.getD x 0 = b[x] := by simp [h2]
    rw [← e1, ← e2]
    have la := (ha.low x hx).1
    have lb := (hb.low x hx).1
    by_cases h0 : 0 ≤ a.getD x 0
    · obtain ⟨p, q⟩ := ha.le_ hb (a.getD x 0).toNat x hx (by omega)
      obtain ⟨p', q'⟩ := hb.le_ ha (b.getD x 0).toNat x hx (by omega)
      omega
    · by_cases h0' : 0 ≤ b.getD x 0
      · obtain ⟨p', q'⟩ := hb.le_ ha (b.getD x 0).toNat x hx (by omega)
        omega
      · omega
theorem IsTable.unique (t : IsTable nd bad ds round) (t' : IsTable nd bad ds' round') : ds' = ds ∧ round' = round := by
  have e1 : ds' = ds := by
    apply List.ext_getElem
    · rw [t.len, t'.len]
    · intro x h1 h2
      have hx : x < nd.length := by rw [← t.len]; exact h2
      have e1 : ds.getD x [] = ds[x] := by simp [h2]
      have e2 : ds'.getD x [] = ds'[x] := by simp [h1]
      rw [← e1, ← e2]
      exact (t'.dist x hx).unique (t.dist x hx)
  subst e1
  refine ⟨rfl, ?_⟩
  have le : ∀ {a b : List Int}, Rt bad ds' nd.length (fun u k => k ∈ nd.getD u []) a → Rt bad ds' nd.length (fun u k => k ∈ nd.getD u []) b → ∀ x, x < nd.length → 0 < a.getD x 0 → 0 < b.getD x 0 ∧ b.getD x 0 ≤ a.getD x 0 := fun ha hb x hx h0 => by
    obtain ⟨u, h1, h2, h3⟩ := ha.from_ x hx h0
    have := hb.least x hx u h1 h2
    omega
  apply List.ext_getElem
  · rw [t.round_.len, t'.round_.len]
  · intro x h1 h2
    have hx : x < nd.length := by rw [← t.round_.len]; exact h2
    have e1 : round.getD x 0 = round[x] := by simp [h2]
    have e2 : round'.getD x 0 = round'[x] := by simp [h1]
    rw [← e1, ← e2]
    have l1 := t.round_.low x hx
    have l2 := t'.round_.low x hx
    have q1 := le t.round_ t'.round_ x hx
    have q2 := le t'.round_ t.round_ x hx
    omega
/-- The path is a witness. -/
theorem Pth.wit (t : IsTable nd bad ds round) (s : Pth nd bad ds round rank i total path) (hl : (path.length : Int) = total + 1) : IsWit nd bad i path := by
  have hlt : ∀ k, k < path.length → path.getD k 0 < nd.length := fun k hk => (s.lt _ (getD_mem path k 0 hk)).1
  refine ⟨s.pos, s.head, hlt, s.edge, fun k hk => ?_⟩
  have h := (s.left k hk).done t (hlt k hk) (fun x hx => (s.lt x (List.mem_of_mem_take hx)).1)
  rw [← h]
  omega
theorem Pth.start (s : Pth nd bad ds round rank i total path) : RR nd bad ds round i [] total := by
  have := s.left 0 s.pos
  rw [s.head] at this
  simpa using this
/-- One node of length is due to the node itself just if it is bad. -/
theorem RR.zero_ (t : IsTable nd bad ds round) (hi : i < nd.length) (h : RR nd bad ds round i [] total) : total = 0 ↔ bad.getD i false = true := by
  rw [h.done t hi (by simp)]
  simp
theorem RR.need (g : Gr nd bad) (t : IsTable nd bad ds round) (hi : i < nd.length) (h : RR nd bad ds round i [] total) {s : Int} (hj : j ∈ nd.getD i []) (h' : RR nd bad ds round j [] s) : total ≤ s + 1 := by
  cases hb : bad.getD i false with
  | true =>
    have := (h.zero_ t hi).2 hb
    have := h'.low
    omega
  | false =>
    have h2 := h'.add i
    have h3 := h.step1 g t hi hb (by simp) hj h2
    split at h3 <;> (try split at h3) <;> omega
end

end Go.Proofs.Ytjlidhijnohkbaa
