/-
  OWN WORK. Plain: the breadth-first layers of a residual network.
-/
import Derived.Test.YtkhbiknjkffpjaaFlCheck
set_option linter.unusedSimpArgs false
set_option linter.unusedVariables false
namespace Go.Proofs.Ytkhbiknjkffpjaa

def lv (level : List Int) (v : Nat) : Int := level.getD v (-1)

theorem lv_lt {level : List Int} {v : Nat} (h : v < level.length) : lv level v = level[v] := getD_lt _ _ h
theorem lv_set {level : List Int} {w v : Nat} {x : Int} (hw : w < level.length) : lv (level.set w x) v = if v = w then x else lv level v := by
  unfold lv
  split
  · rename_i h; subst h; exact getD_set_eq _ _ _ hw
  · rename_i h; exact getD_set_ne _ _ _ h

theorem nodup_le : ∀ (n : Nat) (l : List Nat), l.Nodup → (∀ x ∈ l, x < n) → l.length ≤ n := by
  intro n
  induction n with
  | zero =>
    intro l _ h
    cases l with
    | nil => simp
    | cons a l => exact absurd (h a (by simp)) (by omega)
  | succ n ih =>
    intro l hn h
    by_cases hm : n ∈ l
    · have h1 := ih (l.erase n) (hn.erase n) (fun x hx => by
        have h2 := h x (List.mem_of_mem_erase hx)
        have h3 : x ≠ n := fun e => by
          subst e
          exact (List.Nodup.mem_erase_iff hn).1 hx |>.1 rfl
        omega)
      rw [List.length_erase_of_mem hm] at h1
      omega
    · have := ih l hn (fun x hx => by
        have h2 := h x hx
        have h3 : x ≠ n := fun e => hm (e ▸ hx)
        omega)
      omega

/-- The arcs' ends are nodes. -/
def ArcsOK (n nt : Nat) (to : List Nat) (outs : List (List Nat)) : Prop := ∀ v, ∀ k ∈ outs.getD v [], k < nt ∧ to.getD k 0 < n

structure Bfs (n s : Nat) (outs : List (List Nat)) (to : List Nat) (left level : List Int) (ds : List Nat) (h : Nat) : Prop where
  len : level.length = n
  nod : ds.Nodup
  lt : ∀ v ∈ ds, v < n
  iff : ∀ v, 0 ≤ lv level v ↔ v ∈ ds
  neg : ∀ v, -1 ≤ lv level v
  src : s ∈ ds
  zero : ∀ v, lv level v = 0 ↔ v = s
  lvl : ∀ (i : Nat) (hi : i < ds.length), lv level ds[i] ≤ i
  pred : ∀ v, 0 < lv level v → ∃ u k, k ∈ outs.getD u [] ∧ to.getD k 0 = v ∧ 0 < left.getD k 0 ∧ lv level u + 1 = lv level v
  hle : h ≤ ds.length
  clo : ∀ (i : Nat) (_ : i < h) (hi2 : i < ds.length), ∀ k ∈ outs.getD ds[i] [], 0 < left.getD k 0 → 0 ≤ lv level (to.getD k 0)

theorem Bfs.start {n s : Nat} {outs : List (List Nat)} {to : List Nat} {left : List Int} (hs : s < n) : Bfs n s outs to left ((List.replicate n (-1)).set s 0) [s] 0 := by
  have hl : ∀ v, lv ((List.replicate n (-1 : Int)).set s 0) v = if v = s then 0 else -1 := by
    intro v
    rw [lv_set (by simpa using hs)]
    split
    · rfl
    · unfold lv
      rcases Nat.lt_or_ge v n with h | h
      · rw [getD_lt _ _ (by simpa using h)]; simp
      · rw [getD_ge _ _ (by simpa using h)]
  refine ⟨by simp, by simp, by simpa using hs, ?_, ?_, by simp, ?_, ?_, ?_, by simp, ?_⟩
  · intro v; rw [hl]; split <;> simp_all
  · intro v; rw [hl]; split <;> omega
  · intro v; rw [hl]; split <;> simp_all
  · intro i hi
    have : i = 0 := by simp at hi; omega
    subst this; rw [hl]; simp
  · intro v hv; rw [hl] at hv; split at hv <;> omega
  · intro i hi; omega

/-- A further node is found from a node that has been found. -/
theorem Bfs.visit {n s : Nat} {outs : List (List Nat)} {to : List Nat} {left level : List Int} {ds : List Nat} {h : Nat} (H : Bfs n s outs to left level ds h) {j k w : Nat} (hj : j < ds.length) (hk : k ∈ outs.getD ds[j] []) (hw : to.getD k 0 = w) (hwn : w < n) (hl : 0 < left.getD k 0) (hn : lv level w < 0) :
    Bfs n s outs to left (level.set w (lv level ds[j] + 1)) (ds ++ [w]) h := by
  have hwl : w < level.length := by rw [H.len]; exact hwn
  have hv : ∀ v, lv (level.set w (lv level ds[j] + 1)) v = if v = w then lv level ds[j] + 1 else lv level v := fun v => lv_set hwl
  have hwd : w ∉ ds := fun hm => by have := (H.iff w).2 hm; omega
  have hj0 : 0 ≤ lv level ds[j] := (H.iff _).2 (List.getElem_mem hj)
  refine ⟨by simp [H.len], ?_, ?_, ?_, ?_, by simp [H.src], ?_, ?_, ?_, by have := H.hle; simp; omega, ?_⟩
  · rw [List.nodup_append]
    exact ⟨H.nod, by simp, fun a ha b hb => by simp at hb; subst hb; exact fun e => hwd (e ▸ ha)⟩
  · intro v hvm
    rcases List.mem_append.1 hvm with h1 | h1
    · exact H.lt v h1
    · simp at h1; omega
  · intro v
    rw [hv]
    split
    · rename_i e; subst e; simp; omega
    · rename_i e; rw [H.iff]; simp [e]
  · intro v; rw [hv]; split
    · omega
    · exact H.neg v
  · intro v; rw [hv]; split
    · rename_i e
      subst e
      constructor
      · intro h1; omega
      · intro h1; subst h1; exact absurd H.src hwd
    · exact H.zero v
  · intro i hi
    rcases Nat.lt_or_ge i ds.length with h1 | h1
    · rw [List.getElem_append_left h1, hv, if_neg (fun (e : ds[i] = w) => hwd (e ▸ List.getElem_mem h1))]
      exact H.lvl i h1
    · have h2 : i = ds.length := by simp at hi; omega
      subst h2
      rw [List.getElem_append_right (Nat.le_refl _)]
      simp only [Nat.sub_self, List.getElem_cons_zero]
      rw [hv, if_pos rfl]
      have := H.lvl j hj
      omega
  · intro v hv0
    rw [hv] at hv0
    by_cases e : v = w
    · subst e
      refine ⟨ds[j], k, hk, hw, hl, ?_⟩
      rw [hv, hv, if_pos rfl, if_neg (fun (e : ds[j] = v) => hwd (e ▸ List.getElem_mem hj))]
    · rw [if_neg e] at hv0
      obtain ⟨u, k', h1, h2, h3, h4⟩ := H.pred v hv0
      have hu : u ≠ w := fun e => by subst e; omega
      exact ⟨u, k', h1, h2, h3, by rw [hv, hv, if_neg e, if_neg hu]; exact h4⟩
  · intro i hi hi2 k' hk' hl'
    have h1 : i < ds.length := by have := H.hle; omega
    rw [List.getElem_append_left h1] at hk'
    have := H.clo i hi h1 k' hk' hl'
    rw [hv]; split <;> omega

theorem Bfs.next {n s : Nat} {outs : List (List Nat)} {to : List Nat} {left level : List Int} {ds : List Nat} {h : Nat} (H : Bfs n s outs to left level ds h) (hh : h < ds.length)
    (hc : ∀ k ∈ outs.getD ds[h] [], 0 < left.getD k 0 → 0 ≤ lv level (to.getD k 0)) : Bfs n s outs to left level ds (h + 1) :=
  { H with
    hle := hh
    clo := fun i hi hi2 => by
      rcases Nat.lt_or_ge i h with h1 | h1
      · exact H.clo i h1 hi2
      · obtain rfl : i = h := by omega
        exact hc }

theorem Bfs.le {n s : Nat} {outs : List (List Nat)} {to : List Nat} {left level : List Int} {ds : List Nat} {h : Nat} (H : Bfs n s outs to left level ds h) : ds.length ≤ n := nodup_le n ds H.nod H.lt

/-- What the layers are good for. -/
structure LevelOK (n s : Nat) (outs : List (List Nat)) (to : List Nat) (left level : List Int) : Prop where
  len : level.length = n
  neg : ∀ v, -1 ≤ lv level v
  lt : ∀ v, lv level v < n
  zero : ∀ v, lv level v = 0 ↔ v = s
  pred : ∀ v, 0 < lv level v → ∃ u k, k ∈ outs.getD u [] ∧ to.getD k 0 = v ∧ 0 < left.getD k 0 ∧ lv level u + 1 = lv level v
  clo : ∀ u, 0 ≤ lv level u → ∀ k ∈ outs.getD u [], 0 < left.getD k 0 → 0 ≤ lv level (to.getD k 0)

theorem Bfs.done {n s : Nat} {outs : List (List Nat)} {to : List Nat} {left level : List Int} {ds : List Nat} (H : Bfs n s outs to left level ds ds.length) (hn : 0 < n) : LevelOK n s outs to left level := by
  refine ⟨H.len, H.neg, ?_, H.zero, H.pred, ?_⟩
  · intro v
    by_cases h : 0 ≤ lv level v
    · obtain ⟨i, hi, rfl⟩ := List.getElem_of_mem ((H.iff v).1 h)
      have := H.lvl i hi
      have := H.le
      omega
    · omega
  · intro u hu k hk hl
    obtain ⟨i, hi, rfl⟩ := List.getElem_of_mem ((H.iff u).1 hu)
    exact H.clo i hi hi k hk hl

end Go.Proofs.Ytkhbiknjkffpjaa
