/-
  OWN WORK. A further need and a further bad node, plainly.
-/
import Derived.Test.YtjlidhijnohkbaaGrBig
set_option linter.unusedSimpArgs false
set_option linter.unusedVariables false
namespace Go.Proofs.Ytjlidhijnohkbaa

section
variable {nd nd' : List (List Nat)} {bad bad' : List Bool} {a x y : List Int}
/-- What is grounded under more conditions is grounded, at no greater rank. -/
theorem IsRank.less (g : Gr nd bad) (ha : IsRank nd bad a) (hx : ∀ u, u < nd.length → 0 ≤ x.getD u 0 → bad.getD u false = false ∧ ∀ j ∈ nd.getD u [], 0 ≤ x.getD j 0 ∧ x.getD j 0 < x.getD u 0) :
    ∀ (m u : Nat), u < nd.length → x.getD u 0 = m → 0 ≤ a.getD u 0 ∧ a.getD u 0 ≤ m := by
  intro m
  induction m using Nat.strongRecOn with
  | _ m ih =>
    intro u hu e
    obtain ⟨b1, b2⟩ := hx u hu (by omega)
    have h0 : 0 ≤ a.getD u 0 := by
      apply Classical.byContradiction
      intro hn
      have hl := (ha.low u hu).1
      rcases ha.out u hu (by omega) with hb | ⟨j, hj, hb⟩
      · rw [b1] at hb; cases hb
      · obtain ⟨k1, k2⟩ := b2 j hj
        have := (ih (x.getD j 0).toNat (by omega) j (g.lt u j hj) (by omega)).1
        omega
    refine ⟨h0, ?_⟩
    rcases (ha.in_ u hu h0).2.2 with ⟨_, b3⟩ | ⟨j, hj, b3⟩
    · omega
    · obtain ⟨k1, k2⟩ := b2 j hj
      have := (ih (x.getD j 0).toNat (by omega) j (g.lt u j hj) (by omega)).2
      omega
theorem IsRank.more (g : Gr nd bad) (ha : IsRank nd bad a) (hn : nd'.length = nd.length) (hx : IsRank nd' bad x) (hs : ∀ u j, j ∈ nd.getD u [] → j ∈ nd'.getD u []) (u : Nat) (hu : u < nd.length) (h : 0 ≤ x.getD u 0) : 0 ≤ a.getD u 0 ∧ a.getD u 0 ≤ x.getD u 0 := by
  have := ha.less g (x := x) (fun v hv h0 => ⟨(hx.in_ v (by omega) h0).1, fun j hj => (hx.in_ v (by omega) h0).2.1 j (hs v j hj)⟩) (x.getD u 0).toNat u hu (by omega)
  omega
theorem IsRank.worse (g : Gr nd bad) (ha : IsRank nd bad a) (hy : IsRank nd bad' y) (hb : ∀ u, bad'.getD u false = false → bad.getD u false = false) : ∀ (m u : Nat), u < nd.length → y.getD u 0 = m → a.getD u 0 = m := by
  have h1 := ha.less g (x := y) (fun v hv h0 => ⟨hb v (hy.in_ v hv h0).1, fun j hj => (hy.in_ v hv h0).2.1 j hj⟩)
  intro m
  induction m using Nat.strongRecOn with
  | _ m ih =>
    intro u hu e
    obtain ⟨k1, k2⟩ := h1 m u hu e
    rcases (hy.in_ u hu (by omega)).2.2 with ⟨_, b3⟩ | ⟨j, hj, b3⟩
    · omega
    · obtain ⟨p1, p2⟩ := (hy.in_ u hu (by omega)).2.1 j hj
      have e1 := ih (y.getD j 0).toNat (by omega) j (g.lt u j hj) (by omega)
      have e2 := ((ha.in_ u hu k1).2.1 j hj).2
      omega
theorem Gr.put (g : Gr nd bad) {i k : Nat} (hi : i < nd.length) (hk : k < nd.length) : Gr (nd.set i (putN (nd.getD i []) k)) bad := by
  refine ⟨by simpa using g.size, by simpa using g.bads, fun u j hj => ?_, fun u => ?_⟩
  · rw [getD_set _ _ _ _ _ hi] at hj
    simp only [List.length_set]
    split at hj
    · rcases (putN_mem _ _ _).1 hj with rfl | hj
      · exact hk
      · exact g.lt i j hj
    · exact g.lt u j hj
  · rw [getD_set _ _ _ _ _ hi]
    split
    · exact putN_sorted k (g.sorted i)
    · exact g.sorted u
theorem Gr.spoil (g : Gr nd bad) (k : Nat) : Gr nd (bad.set k true) := ⟨g.size, by simpa using g.bads, g.lt, g.sorted⟩
end

end Go.Proofs.Ytjlidhijnohkbaa
