/-
  OWN WORK. From what the statement's row says of a slice that came in to what may be read.
-/
import Derived.Test.YtbddkmhpfbmcmaaSlOps
import Derived.Test.YtbddkmhpfbmcmaaNum
namespace Go.SL
open Go.RowKit

theorem rd_of_row {w : World} {a : Option Addr} {len cap : Nat} {zs : List Int} (h : (a = none ∧ len = 0 ∧ cap = 0 ∧ zs = []) ∨
    ∃ x, a = some x ∧ len ≤ cap ∧ cap ≤ maxLen ∧ zs.length = cap ∧ (∀ i, i < zs.length → w.cell? (x.add i) = some (.int .i64 (zs.getD i 0))) ∧ ∀ n ∈ zs, (Lit.int .i64 n).wf = true) :
    rd w a ((zs.take len).map (.int .i64)) ∧ (zs.take len).length = len ∧ len ≤ 9223372036854775807 := by
  rcases h with ⟨rfl, rfl, rfl, rfl⟩ | ⟨x, rfl, h1, h2, h3, h4, -⟩
  · exact ⟨.inl rfl, rfl, by omega⟩
  · have hm : len ≤ 9223372036854775807 := by unfold maxLen at h2; omega
    have hl : (zs.take len).length = len := by simp; omega
    refine ⟨?_, hl, hm⟩
    rcases Nat.eq_zero_or_pos len with rfl | hp
    · exact .inl (by simp)
    · have h0 := h4 0 (by omega)
      obtain ⟨g, off, spot⟩ := x
      have hs : spot = none ∧ g < w.heap.size := by
        simp only [Addr.add, if_true, World.cell?] at h0
        split at h0
        · rename_i hg
          have hlt := (Array.getElem?_eq_some_iff.1 hg).1
          split at h0
          · cases h0
          · rename_i hn
            exact ⟨by simpa using hn, hlt⟩
        · cases h0
      obtain ⟨rfl, hg⟩ := hs
      refine .inr ⟨g, off, rfl, hg, fun k u hu => ?_⟩
      have hk : k < len := by have := (List.getElem?_eq_some_iff.1 hu).1; simp at this; omega
      have h5 := h4 k (by omega)
      have e1 : (⟨g, off, none⟩ : Addr).add k = ⟨g, off + k, none⟩ := by
        unfold Addr.add; split
        · rename_i h; subst h; rfl
        · rfl
      rw [e1] at h5
      rw [h5]
      rw [List.getElem?_map, List.getElem?_take, if_pos hk] at hu
      have : zs[k]? = some (zs.getD k 0) := by rw [List.getD_eq_getElem?_getD]; rw [List.getElem?_eq_getElem (by omega)]; rfl
      rw [this] at hu
      simpa using hu

end Go.SL
