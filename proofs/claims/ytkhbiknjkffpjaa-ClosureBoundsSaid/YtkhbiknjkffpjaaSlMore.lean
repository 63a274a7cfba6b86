/-
  OWN WORK. More laws over 'Sat'.
-/
import Derived.Test.YtkhbiknjkffpjaaSlOps
import Derived.RegionTactic
import Derived.BigRegion
import Derived.Deep.RegionHeld3
set_option linter.unusedSimpArgs false
set_option linter.unusedVariables false
namespace Go.SL
open Go.RowKit

/-- A cell of a block that was there at the beginning. -/
theorem Sat.old {B : Nat} {w0 w : World} {L : List Asn} (hS : Sat B w0 w L) {g o : Nat} {u : Value} (hg : g < B) (h : w0.cell? ⟨g, o, none⟩ = some u) : w.cell? ⟨g, o, none⟩ = some u :=
  (hS.below.cell (p := ⟨g, o, none⟩) hg).trans h

/-- What was laid last stands first. -/
theorem Sat.front {B : Nat} {w0 w : World} {L : List Asn} {A : Asn} (hS : Sat B w0 w (L ++ [A])) : Sat B w0 w (A :: L) := by
  refine hS.sel (L.length :: List.range L.length) ?_ ?_
  · rw [List.nodup_cons]
    exact ⟨by simp, List.nodup_range⟩
  · rw [List.map_cons, List.map_cons]
    congr 1
    · simp
    · apply List.ext_getElem
      · simp
      · intro i h1 h2
        simp at h1
        simp [List.getElem?_append_left h1]

/-- What was laid first stands last. -/
theorem Sat.back {B : Nat} {w0 w : World} {L : List Asn} {A : Asn} (hS : Sat B w0 w (A :: L)) : Sat B w0 w (L ++ [A]) := by
  refine hS.sel ((List.range L.length).map (· + 1) ++ [0]) ?_ ?_
  · rw [List.nodup_append]
    refine ⟨List.Pairwise.map _ (fun _ _ h => by simpa using h) List.nodup_range, by simp, ?_⟩
    intro a ha b hb
    simp at ha hb
    obtain ⟨c, _, rfl⟩ := ha
    omega
  · simp only [List.map_append, List.map_map]
    congr 1
    apply List.ext_getElem
    · simp
    · intro i h1 h2
      simp at h1
      simp [h1]

/-- The first one is forgotten. -/
theorem Sat.tail {B : Nat} {w0 w : World} {L : List Asn} {A : Asn} (hS : Sat B w0 w (A :: L)) : Sat B w0 w L := by
  obtain ⟨c, hc⟩ := hS.own
  refine ⟨hS.below, hS.base, fun b => c b - 1 + (if c b = 0 then L.length else 0), ?_⟩
  intro i A' hi
  have h := hc (i + 1) A' (by simpa using hi)
  have e : part B w (fun b => c b - 1 + (if c b = 0 then L.length else 0)) i = part B w c (i + 1) := by
    have hl : i < L.length := (List.getElem?_eq_some_iff.1 hi).1
    funext b
    unfold part
    by_cases h0 : c b = 0
    · simp only [h0, if_true]
      rw [if_neg (by omega), if_neg (by omega)]
    · simp only [h0, if_false]
      by_cases h1 : c b = i + 1
      · by_cases h2 : B ≤ b
        · rw [if_pos ⟨by omega, h2⟩, if_pos ⟨h1, h2⟩]
        · rw [if_neg (fun h => h2 h.2), if_neg (fun h => h2 h.2)]
      · rw [if_neg (by omega), if_neg (by omega)]
  rw [e]; exact h

/-- A store of one cell into an owned row that lies at its block's head. FOR THE WALK. -/
theorem wpList_sto0 {P : Program} {ops : Array Oper} {rest : List Oper} {o : Oper} {a : Act} {Q : Exit → Act → World → Prop} {w : World} {B : Nat} {w0 : World} {L : List Asn} (hgd : o.guard = none) (ty : TypeId) (x y : Operand) (ho : o.op = .store ty x y)
    (k : Nat) {e : TypeId} {size g n cap : Nat} {xs : List Value} (hS : Sat B w0 w L) (hk : L[k]? = some (row e size 0 (.slice (some ⟨g, 0, none⟩) n cap) n xs)) (j : Nat) (hx : a.eval x = .pointer (some ⟨g, j, none⟩)) (hj : j < xs.length) {u : Value} (hy : a.eval y = u) (h1 : u.oneCell' = true)
    (hi : (P.info? ty).map (·.size) = some 1)
    (h : ∀ w', Sat B w0 w' (L.set k (row e size 0 (.slice (some ⟨g, 0, none⟩) n cap) n (xs.set j u))) → wpList P ops Q rest (a.put o.dst undef) w') : wpList P ops Q (o :: rest) a w :=
  wpList_sto hgd ty x y ho k hS hk j (by rw [Nat.zero_add]; exact hx) hj hy h1 hi h

/-- 's[1:]': what is left of an owned row behind its first cell. -/
theorem Sat.tailRow {B : Nat} {w0 w : World} {L : List Asn} (hS : Sat B w0 w L) (i : Nat) {e : TypeId} {off g n cap : Nat} {x : Value} {xs : List Value} (hi : L[i]? = some (row e 1 off (.slice (some ⟨g, off, none⟩) (n + 1) cap) (n + 1) (x :: xs))) :
    Sat B w0 w (L.set i (row e 1 (off + 1) (.slice (if cap = 1 then some ⟨g, off, none⟩ else some ⟨g, off + 1, none⟩) n (cap - 1)) n xs)) := by
  refine hS.weak i _ _ hi fun p hp => ?_
  obtain ⟨h1, h2⟩ := hp
  refine ⟨by simpa using h1, ?_⟩
  rcases h2 with ⟨a, _, h⟩ | ⟨g', cap', cur, hv, hh, h3, h4, h5, h6⟩
  · omega
  · simp only [Value.slice.injEq, Option.some.injEq, Addr.mk.injEq, and_true, true_and] at hv
    obtain ⟨rfl, rfl⟩ := hv
    by_cases hc : cap = 1
    · left
      exact ⟨some ⟨g, off, none⟩, by simp [hc]; omega, by omega⟩
    · right
      refine ⟨g, cap - 1, cur, by simp [hc], hh, by omega, by omega, by omega, ?_⟩
      rw [Nat.mul_one] at h6 ⊢
      have : cur.toList.drop (off + 1) = (cur.toList.drop off).drop 1 := by rw [List.drop_drop]
      rw [this]
      have h7 := congrArg (List.drop 1) h6
      rw [List.drop_take] at h7
      simpa using h7

end Go.SL
