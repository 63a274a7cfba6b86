/-
  OWN WORK. Circles and grounded nodes, plainly; the reference's choice of a circle.
-/
import Derived.Test.YtjlidhijnohkbaaGrRndP
set_option linter.unusedSimpArgs false
set_option linter.unusedVariables false
namespace Go.Proofs.Ytjlidhijnohkbaa

/-- The graph of the nodes that are not bad. -/
def freeRow (nd : List (List Nat)) (bad : List Bool) (i : Nat) : List Nat := if bad.getD i false = true then [] else (nd.getD i []).filter fun j => !bad.getD j false
def freeG (nd : List (List Nat)) (bad : List Bool) (m : Nat) : List (List Nat) := (List.range m).map (freeRow nd bad)
section
variable {nd : List (List Nat)} {bad : List Bool} {ds : List (List Int)} {round rank : List Int} {i n m : Nat} {c : Nat → Nat} {path out : List Nat}
theorem freeG_len (nd : List (List Nat)) (bad : List Bool) (m : Nat) : (freeG nd bad m).length = m := by simp [freeG]
theorem freeG_get (nd : List (List Nat)) (bad : List Bool) {m k : Nat} (h : k < m) : (freeG nd bad m).getD k [] = freeRow nd bad k := by simp [freeG, h]
theorem freeRow_mem {j : Nat} : j ∈ freeRow nd bad i ↔ bad.getD i false = false ∧ j ∈ nd.getD i [] ∧ bad.getD j false = false := by
  unfold freeRow
  cases h : bad.getD i false with
  | true => simp
  | false => simp
theorem replicate_getD (n i : Nat) : (List.replicate n false).getD i false = false := by
  rw [List.getD_eq_getElem?_getD, List.getElem?_replicate]
  split <;> rfl
/-- A circle's nodes are not grounded. -/
theorem IsCirc.open_ (h : IsCirc nd bad m c) (hR : IsRank (freeG nd bad nd.length) (List.replicate nd.length false) rank) : rank.getD (c 0) 0 < 0 := by
  apply Classical.byContradiction
  intro hn
  have key : ∀ k, 0 ≤ rank.getD (c k) 0 ∧ rank.getD (c k) 0 + k ≤ rank.getD (c 0) 0 := by
    intro k
    induction k with
    | zero => omega
    | succ k ih =>
      have hin : c k < (freeG nd bad nd.length).length := by rw [freeG_len]; exact h.lt k
      have := (hR.in_ (c k) hin ih.1).2.1 (c (k + 1)) (by rw [freeG_get nd bad (h.lt k)]; exact freeRow_mem.2 ⟨h.good k, h.edge k, h.good (k + 1)⟩)
      omega
  have h1 := key m
  have h2 := h.back 0
  rw [Nat.zero_add] at h2
  rw [h2] at h1
  have := h.pos
  omega
/-- Where a node is not grounded, there is a circle. -/
theorem IsRank.circ (g : Gr nd bad) (hR : IsRank (freeG nd bad nd.length) (List.replicate nd.length false) rank) (hi : i < nd.length) (h0 : rank.getD i 0 < 0) : ∃ m c, IsCirc nd bad m c := by
  classical
  have low : ∀ u, u < nd.length → rank.getD u 0 < 0 → rank.getD u 0 = -1 := fun u hu h => by
    have := (hR.low u (by rw [freeG_len]; exact hu)).1
    omega
  have step : ∀ u, u < nd.length ∧ rank.getD u 0 < 0 → ∃ v, (v < nd.length ∧ rank.getD v 0 < 0) ∧ v ∈ freeRow nd bad u := fun u hu => by
    rcases hR.out u (by rw [freeG_len]; exact hu.1) (low u hu.1 hu.2) with h | ⟨j, h1, h2⟩
    · rw [replicate_getD] at h; cases h
    · rw [freeG_get nd bad hu.1] at h1
      exact ⟨j, ⟨g.lt u j (freeRow_mem.1 h1).2.1, by omega⟩, h1⟩
  let nx : {u // u < nd.length ∧ rank.getD u 0 < 0} → {u // u < nd.length ∧ rank.getD u 0 < 0} := fun u => ⟨Classical.choose (step u.1 u.2), (Classical.choose_spec (step u.1 u.2)).1⟩
  have hnx : ∀ u, (nx u).1 ∈ freeRow nd bad u.1 := fun u => (Classical.choose_spec (step u.1 u.2)).2
  let w : Nat → {u // u < nd.length ∧ rank.getD u 0 < 0} := fun k => Nat.rec ⟨i, hi, h0⟩ (fun _ u => nx u) k
  have hw : ∀ k, (w (k + 1)).1 ∈ freeRow nd bad (w k).1 := fun k => hnx (w k)
  -- two of the nodes are one
  have twice : ∃ a b, a < b ∧ (w a).1 = (w b).1 := by
    apply Classical.byContradiction
    intro hn
    have hnd : ((List.range (nd.length + 1)).map fun k => (w k).1).Nodup := by
      rw [List.nodup_iff_pairwise_ne, List.pairwise_map]
      refine List.pairwise_lt_range.imp fun {a b} hab e => hn ⟨a, b, hab, e⟩
    have := nodup_lt_len hnd (n := nd.length) (fun u hu => by
      obtain ⟨k, _, rfl⟩ := List.mem_map.1 hu
      exact (w k).2.1)
    simp at this
    omega
  obtain ⟨a, b, hab, he⟩ := twice
  have hm : 0 < b - a := by omega
  refine ⟨b - a, fun k => (w (a + k % (b - a))).1, hm, fun k => (w _).2.1, fun k => (freeRow_mem.1 (hw (a + k % (b - a)))).1, fun k => ?_, fun k => by simp⟩
  have h1 := freeRow_mem.1 (hw (a + k % (b - a)))
  show (w (a + (k + 1) % (b - a))).1 ∈ nd.getD (w (a + k % (b - a))).1 []
  have hk := Nat.mod_lt k hm
  by_cases hlt : k % (b - a) + 1 < b - a
  · have e2 : (k + 1) % (b - a) = k % (b - a) + 1 := by
      rw [← Nat.mod_eq_of_lt hlt, Nat.mod_add_mod]
    rw [e2]; exact h1.2.1
  · have e2 : (k + 1) % (b - a) = 0 := by
      rw [← Nat.mod_add_mod, show k % (b - a) + 1 = b - a by omega, Nat.mod_self]
    rw [e2, Nat.add_zero, he]
    have e3 : a + k % (b - a) + 1 = b := by omega
    have h2 := h1.2.1
    rw [e3] at h2
    exact h2
theorem CirRes.open_ (g : Gr nd bad) (s : CirRes nd bad path) (hR : IsRank (freeG nd bad nd.length) (List.replicate nd.length false) rank) : (∃ i, i < nd.length ∧ rank.getD i 0 < 0) ↔ 0 < path.length := by
  constructor
  · rintro ⟨i, hi, h0⟩
    obtain ⟨m, c, hc⟩ := hR.circ g hi h0
    exact (s.least g hc).1
  · intro h0
    obtain ⟨c, hc⟩ := s.circ g h0
    exact ⟨c 0, hc.lt 0, hc.open_ hR⟩
/-- What the law asks of a circle. -/
theorem CirRes.good (g : Gr nd bad) (s : CirRes nd bad path) (hi : i < path.length) : path.getD 0 0 ≤ path.getD i 0 ∧ path.getD i 0 < nd.length ∧ bad.getD (path.getD i 0) false = false ∧ path.getD i 0 ∉ path.take i ∧ path.getD ((i + 1) % path.length) 0 ∈ nd.getD (path.getD i 0) [] := by
  obtain ⟨ds, round, t, h1⟩ := s
  rcases h1 with ⟨rfl, h4⟩ | ⟨f, h4, h5, h6⟩
  · cases hi
  · have hm := getD_mem path i 0 hi
    have hc := (h5.circ g t h6).edge i
    simp only [Nat.mod_eq_of_lt hi] at hc
    refine ⟨by rw [h5.head]; exact h5.above g t h6 h4 _ hm, (h5.lt _ hm).1, (h5.lt _ hm).2, fun h => ?_, hc⟩
    obtain ⟨q, hq, e⟩ := mem_getD 0 h
    rw [List.length_take] at hq
    rw [List.getD_eq_getElem?_getD, List.getElem?_take_of_lt (by omega), ← List.getD_eq_getElem?_getD] at e
    exact h5.nodup t (by omega) q i (by omega) hi e
end

end Go.Proofs.Ytjlidhijnohkbaa
