/-
  OWN WORK. Certificates of ranks, plainly.
-/
import Derived.Test.YtjlidhijnohkbaaGrChk
set_option linter.unusedSimpArgs false
set_option linter.unusedVariables false
namespace Go.Proofs.Ytjlidhijnohkbaa

section
variable {nd : List (List Nat)} {bad : List Bool} {a x : List Int}
theorem IsRank.cert (h : IsRank nd bad a) : IsCert nd bad a :=
  ⟨h.len, fun i hi => ⟨(h.low i hi).1, fun h0 => ⟨(h.in_ i hi h0).1, (h.in_ i hi h0).2.1⟩, h.out i hi⟩⟩
theorem IsCert.scale (g : Gr nd bad) (h : IsCert nd bad a) {c d : Int} (hc : 1 ≤ c) (hd : 0 ≤ d) (hl : x.length = nd.length) (hx : ∀ u, u < nd.length → x.getD u 0 = if 0 ≤ a.getD u 0 then a.getD u 0 * c + d else a.getD u 0) : IsCert nd bad x := by
  have pos : ∀ p : Int, 0 ≤ p → p ≤ p * c := fun p hp => by
    have := Int.mul_le_mul_of_nonneg_left hc hp
    omega
  refine ⟨hl, fun i hi => ?_⟩
  obtain ⟨h1, h2, h3⟩ := h.2 i hi
  have hxi := hx i hi
  by_cases h0 : 0 ≤ a.getD i 0
  · rw [if_pos h0] at hxi
    have hp := pos _ h0
    refine ⟨by omega, fun _ => ⟨(h2 h0).1, fun j hj => ?_⟩, fun h => by omega⟩
    obtain ⟨k1, k2⟩ := (h2 h0).2 j hj
    have hxj := hx j (g.lt i j hj)
    rw [if_pos k1] at hxj
    have hpj := pos _ k1
    have hm := Int.mul_lt_mul_of_pos_right k2 (show (0 : Int) < c by omega)
    omega
  · rw [if_neg h0] at hxi
    refine ⟨by omega, fun h => by omega, fun h => ?_⟩
    rcases h3 (by omega) with h | ⟨j, hj, h⟩
    · exact .inl h
    · refine .inr ⟨j, hj, ?_⟩
      rw [hx j (g.lt i j hj), if_neg (by omega)]
      exact h
theorem IsCert.up (g : Gr nd bad) (h : IsCert nd bad x) (ha : IsRank nd bad a) : ∀ (m u : Nat), u < nd.length → x.getD u 0 = m → 0 ≤ a.getD u 0 := by
  intro m
  induction m using Nat.strongRecOn with
  | _ m ih =>
    intro u hu e
    apply Classical.byContradiction
    intro hn
    have hl := (ha.low u hu).1
    obtain ⟨b1, b2⟩ := (h.2 u hu).2.1 (by omega)
    rcases ha.out u hu (by omega) with hb | ⟨j, hj, hb⟩
    · rw [b1] at hb; cases hb
    · obtain ⟨k1, k2⟩ := b2 j hj
      have := ih (x.getD j 0).toNat (by omega) j (g.lt u j hj) (by omega)
      omega
theorem IsCert.down (g : Gr nd bad) (h : IsCert nd bad x) (ha : IsRank nd bad a) : ∀ (m u : Nat), u < nd.length → a.getD u 0 = m → (m : Int) ≤ x.getD u 0 := by
  intro m
  induction m using Nat.strongRecOn with
  | _ m ih =>
    intro u hu e
    obtain ⟨b1, b2, b3⟩ := ha.in_ u hu (by omega)
    have hx0 : 0 ≤ x.getD u 0 := by
      apply Classical.byContradiction
      intro hn
      have hl := (h.2 u hu).1
      rcases (h.2 u hu).2.2 (by omega) with hb | ⟨j, hj, hb⟩
      · rw [b1] at hb; cases hb
      · obtain ⟨k1, k2⟩ := b2 j hj
        have := ih (a.getD j 0).toNat (by omega) j (g.lt u j hj) (by omega)
        omega
    rcases b3 with ⟨_, b3⟩ | ⟨j, hj, b3⟩
    · omega
    · obtain ⟨k1, k2⟩ := b2 j hj
      have h1 := ih (a.getD j 0).toNat (by omega) j (g.lt u j hj) (by omega)
      have h2 := (((h.2 u hu).2.1 hx0).2 j hj).2
      omega
theorem IsCert.both (g : Gr nd bad) (h : IsCert nd bad x) (ha : IsRank nd bad a) (u : Nat) (hu : u < nd.length) : (0 ≤ x.getD u 0 ↔ 0 ≤ a.getD u 0) ∧ a.getD u 0 ≤ x.getD u 0 := by
  have hl := (h.2 u hu).1
  have hl2 := (ha.low u hu).1
  by_cases h0 : 0 ≤ a.getD u 0
  · have := h.down g ha (a.getD u 0).toNat u hu (by omega)
    exact ⟨⟨fun _ => h0, fun _ => by omega⟩, by omega⟩
  · by_cases h1 : 0 ≤ x.getD u 0
    · exact absurd (h.up g ha (x.getD u 0).toNat u hu (by omega)) h0
    · exact ⟨⟨fun h => absurd h h1, fun h => absurd h h0⟩, by omega⟩
end

end Go.Proofs.Ytjlidhijnohkbaa
