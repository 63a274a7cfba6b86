/-
  OWN WORK. Several small texts in one.
-/
import Derived.Test.YtkhbiknjkffpjaaHb
import Derived.Test.YtkhbiknjkffpjaaGrV
import Derived.Deep.Matrix
import Derived.Deep.Grids
section
set_option linter.unusedSimpArgs false
set_option linter.unusedVariables false
namespace Go.Proofs.Ytkhbiknjkffpjaa
open Go.RowKit Go.SL Go.HL

def rowVals (l : List Int) : List Value := l.map fun n => .int .i64 n
theorem rowVals_own {F : Nat → Prop} {h : Hp} {R : HV → Value → Prop} (l : List Int) : OW F h R (HL.ints l) (rowVals l) [] := by
  induction l with
  | nil => exact .nil
  | cons x r ih => exact .int ih
theorem own_row {w : World} {a : Option Addr} {len cap : Nat} {zs : List Int} (h : (a = none ∧ len = 0 ∧ cap = 0 ∧ zs = []) ∨
    ∃ x, a = some x ∧ len ≤ cap ∧ cap ≤ maxLen ∧ zs.length = cap ∧ (∀ i, i < zs.length → w.cell? (x.add i) = some (.int .i64 (zs.getD i 0))) ∧ ∀ n ∈ zs, (Lit.int .i64 n).wf = true) :
    OW (fun b => b < w.heap.size) w.heap noR [I (zs.take len)] [.slice a len cap] [] ∧ (zs.take len).length = len ∧ len ≤ 9223372036854775807 := by
  have hl : (zs.take len).length = len := by
    rcases h with ⟨_, rfl, _, rfl⟩ | ⟨x, _, h1, _, h3, _⟩
    · rfl
    · simp; omega
  have hm : len ≤ 9223372036854775807 := by
    rcases h with ⟨_, rfl, _, rfl⟩ | ⟨x, _, h1, h2, _⟩
    · omega
    · unfold maxLen at h2; omega
  refine ⟨?_, hl, hm⟩
  unfold I
  rw [hl]
  rcases Nat.eq_zero_or_pos len with rfl | hp
  · exact .sl0 .nil
  · rcases h with ⟨_, h0, _⟩ | ⟨x, rfl, h1, h2, h3, h4, -⟩
    · omega
    · have h0 := h4 0 (by omega)
      obtain ⟨g, off, spot⟩ := x
      obtain ⟨cur, e, fr, hg, hs⟩ : ∃ cur e fr, w.heap[g]? = some (.cells cur e fr) ∧ spot = none := by
        simp only [Addr.add, if_true, World.cell?] at h0
        split at h0
        · rename_i cur e fr hg
          split at h0
          · cases h0
          · rename_i hn; exact ⟨_, _, _, hg, by simpa using hn⟩
        · cases h0
      subst hs
      have hcell : ∀ k, k < len → cur[off + k]? = some (.int .i64 (zs.getD k 0)) := by
        intro k hk
        have h5 := h4 k (by omega)
        have e1 : (⟨g, off, none⟩ : Addr).add k = ⟨g, off + k, none⟩ := by
          unfold Addr.add; split
          · rename_i h; subst h; rfl
          · rfl
        rw [e1] at h5
        simpa only [World.cell?, hg, Option.isSome_none, Bool.false_eq_true, if_false] using h5
      have hrv : rowVals (zs.take len) = (cur.toList.drop off).take (HL.ints (zs.take len)).length := by
        rw [HL.ints_len, hl]
        apply List.ext_getElem?
        intro k
        by_cases hk : k < len
        · rw [List.getElem?_take, if_pos hk, List.getElem?_drop]
          have := hcell k hk
          rw [show cur.toList[off + k]? = cur[off + k]? from by simp, this]
          rw [rowVals, List.getElem?_map, List.getElem?_take, if_pos hk, List.getElem?_eq_getElem (by omega)]
          simp [List.getD_eq_getElem?_getD, List.getElem?_eq_getElem (show k < zs.length by omega)]
        · rw [List.getElem?_eq_none (by simp [rowVals]; omega), List.getElem?_eq_none (by simp; omega)]
      exact .sl (F := fun b => b < w.heap.size) (Array.getElem?_eq_some_iff.1 hg).1 hg hrv h1 (rowVals_own _) .nil

theorem said_of {P : Program} {f : FuncId} {args : List HV} {rargs : List Value} {w : World} (h : HT P f args (fun r => r = .bool true)) (ho : OW (fun b => b < w.heap.size) w.heap noR args rargs []) :
    Calls P f rargs.toArray w fun e w' => e = .returned (.bool true) ∧ Below w.heap.size w w' := by
  refine (h.2 w rargs _ (fun b hb => hb) ho).mono ?_
  rintro e w' ⟨rv, res, fs, rfl, rfl, h1, _, _, hb⟩
  rw [of_bool h1]
  exact ⟨rfl, hb⟩

theorem own_cons {F : Nat → Prop} {h : Hp} {v : HV} {r : List HV} {rv : Value} {rr : List Value} (h1 : OW F h noR [v] [rv] []) (h2 : OW F h noR r rr []) : OW F h noR (v :: r) (rv :: rr) [] := h1.cons1 h2
theorem own_int {F : Nat → Prop} {h : Hp} {r : List HV} {rr : List Value} {k : IntKind} {n : Int} (h2 : OW F h noR r rr []) : OW F h noR (.int k n :: r) (.int k n :: rr) [] := .int h2

end Go.Proofs.Ytkhbiknjkffpjaa
end
section
set_option linter.unusedSimpArgs false
set_option linter.unusedVariables false
namespace Go.Proofs.Ytkhbiknjkffpjaa
open Go.RowKit Go.HL

theorem row_of_cells {w : World} {a : Addr} {n : Nat} (hn : 0 < n) (V : Nat → Value) (h : ∀ i, i < n → w.cell? (a.add i) = some (V i)) :
    ∃ g off cur e fr, a = ⟨g, off, none⟩ ∧ w.heap[g]? = some (.cells cur e fr) ∧ (List.range n).map V = (cur.toList.drop off).take n := by
  have h0 := h 0 hn
  obtain ⟨g, off, spot⟩ := a
  obtain ⟨cur, e, fr, hg, hs⟩ : ∃ cur e fr, w.heap[g]? = some (.cells cur e fr) ∧ spot = none := by
    simp only [Addr.add, if_true, World.cell?] at h0
    split at h0
    · rename_i cur e fr hg
      split at h0
      · cases h0
      · rename_i hn; exact ⟨_, _, _, hg, by simpa using hn⟩
    · cases h0
  subst hs
  refine ⟨g, off, cur, e, fr, rfl, hg, ?_⟩
  apply List.ext_getElem?
  intro k
  by_cases hk : k < n
  · have h5 := h k hk
    have e1 : (⟨g, off, none⟩ : Addr).add k = ⟨g, off + k, none⟩ := by
      unfold Addr.add; split
      · rename_i h; subst h; rfl
      · rfl
    rw [e1] at h5
    have h6 : cur[off + k]? = some (V k) := by simpa only [World.cell?, hg, Option.isSome_none, Bool.false_eq_true, if_false] using h5
    rw [List.getElem?_take, if_pos hk, List.getElem?_drop, show cur.toList[off + k]? = cur[off + k]? from by simp, h6]
    simp [hk]
  · rw [List.getElem?_eq_none (by simp; omega), List.getElem?_eq_none (by simp; omega)]
theorem own_map {F : Nat → Prop} {h : Hp} (c : Nat → HV) (V : Nat → Value) : ∀ (l : List Nat), (∀ i ∈ l, OW F h noR [c i] [V i] []) → OW F h noR (l.map c) (l.map V) [] := by
  intro l
  induction l with
  | nil => intro _; exact .nil
  | cons a r ih =>
    intro hh
    exact (hh a (by simp)).cons1 (ih fun i hi => hh i (by simp [hi]))
/-- A slice: its cells, by an index. -/
theorem own_slice {w : World} {A : Option Addr} {L C : Nat} (c : Nat → HV) (V : Nat → Value) (h1 : L ≤ C) (h2 : A = none → C = 0) (h3 : ∀ a, A = some a → ∀ i, i < C → w.cell? (a.add i) = some (V i)) (h4 : ∀ i, i < L → OW (fun b => b < w.heap.size) w.heap noR [c i] [V i] []) :
    OW (fun b => b < w.heap.size) w.heap noR [.sl L ((List.range L).map c)] [.slice A L C] [] := by
  rcases Nat.eq_zero_or_pos L with rfl | hL
  · exact .sl0 .nil
  · cases A with
    | none => have := h2 rfl; omega
    | some a =>
      obtain ⟨g, off, cur, e, fr, rfl, hg, hc⟩ := row_of_cells hL V fun i hi => h3 a rfl i (by omega)
      refine .sl (F := fun b => b < w.heap.size) (Array.getElem?_eq_some_iff.1 hg).1 hg (rvs := (List.range L).map V) ?_ h1 (own_map c V _ fun i hi => h4 i (by simpa using hi)) .nil
      rw [hc]; simp
theorem own_ints2 {w : World} {A : Option Addr} {L C : Nat} (Z : List Int) (h1 : L ≤ C) (h2 : A = none → C = 0) (h3 : ∀ a, A = some a → ∀ i, i < C → w.cell? (a.add i) = some (.int .i64 (Z.getD i 0))) :
    OW (fun b => b < w.heap.size) w.heap noR [I ((List.range L).map fun i => Z.getD i 0)] [.slice A L C] [] := by
  have := own_slice (w := w) (A := A) (L := L) (C := C) (fun i => .int .i64 (Z.getD i 0)) (fun i => .int .i64 (Z.getD i 0)) h1 h2 h3 (fun i _ => .int .nil)
  have e : HL.ints ((List.range L).map fun i => Z.getD i 0) = (List.range L).map fun i => HV.int .i64 (Z.getD i 0) := by simp [HL.ints]
  unfold I
  rw [e, List.length_map, List.length_range]
  exact this
theorem own_grid {w : World} {a : Option Addr} {len cap : Nat} (A : Nat → Option Addr) (L C : Nat → Nat) (Z : Nat → List Int) (h1 : len ≤ cap) (h2 : a = none → cap = 0)
    (h3 : ∀ a', a = some a' → ∀ r, r < cap → w.cell? (a'.add r) = some (.slice (A r) (L r) (C r)) ∧ L r ≤ C r ∧ (A r = none → C r = 0) ∧ ∀ a', A r = some a' → ∀ c, c < C r → w.cell? (a'.add c) = some (.int .i64 ((Z r).getD c 0))) :
    OW (fun b => b < w.heap.size) w.heap noR [Gs ((List.range len).map fun r => (List.range (L r)).map fun i => (Z r).getD i 0)] [.slice a len cap] [] := by
  rcases Nat.eq_zero_or_pos len with rfl | hl
  · exact .sl0 .nil
  · cases a with
    | none => have := h2 rfl; omega
    | some a' =>
      have hh := h3 a' rfl
      have := own_slice (w := w) (A := some a') (L := len) (C := cap) (fun r => I ((List.range (L r)).map fun i => (Z r).getD i 0)) (fun r => .slice (A r) (L r) (C r)) h1 h2 (fun a'' e r hr => by cases e; exact (hh r hr).1)
        (fun r hr => own_ints2 (Z r) (hh r (by omega)).2.1 (hh r (by omega)).2.2.1 (hh r (by omega)).2.2.2)
      have e : rowsI ((List.range len).map fun r => (List.range (L r)).map fun i => (Z r).getD i 0) = (List.range len).map fun r => I ((List.range (L r)).map fun i => (Z r).getD i 0) := by
        simp only [rowsI, List.map_map]
        rfl
      unfold Gs
      rw [e, List.length_map, List.length_range]
      exact this

section
variable {H : Type} {enc : TypeId × Value → H} {P : Program} {w : World} {base : Nat} {held : Bool}
/-- An argument that is a row of rows of numbers. -/
theorem arg_grid {t e q : TypeId} {a : Option Addr} {len cap : Nat} {x : DataW H × List MemPlace} (ht : P.underlying t = some (.slice e)) (he : P.underlying e = some (.slice q)) (hq : P.underlying q = some (.int .i64))
    (ce : P.cellsOf e = 1) (cq : P.cellsOf q = 1) {fuel : Nat} (h : DataW.trod enc P w base (fun _ => true) held fuel t [.slice a len cap] = some x) :
    ∃ needs : List (List Int), OW (fun b => b < w.heap.size) w.heap noR [Gs needs] [.slice a len cap] [] ∧ needs.length ≤ 9223372036854775807 ∧ ∀ i, (needs.getD i []).length ≤ 9223372036854775807 := by
  rcases Go.Deep.open_int_rows ht he hq ce cq h with ⟨hcs, _⟩ | ⟨a', l, c, A, L, C, Z, hcs, _, hl, hm, _, hh⟩
  · simp only [List.cons.injEq, Value.slice.injEq, and_true] at hcs
    obtain ⟨rfl, rfl, rfl⟩ := hcs
    exact ⟨[], .sl0 .nil, by simp, by simp⟩
  · simp only [List.cons.injEq, Value.slice.injEq, and_true] at hcs
    obtain ⟨rfl, rfl, rfl⟩ := hcs
    unfold maxLen at hm
    refine ⟨_, own_grid A L C Z hl (fun h => by cases h) (fun a'' e r hr => ?_), by simp; omega, fun i => ?_⟩
    · cases e
      obtain ⟨b1, b2, _, _, _, b3, b4⟩ := hh r hr
      exact ⟨b1, b2, b3, fun a' e c hc => (b4 a' e).2 c hc⟩
    · by_cases hi : i < len
      · obtain ⟨_, b2, b3, _⟩ := hh i (by omega)
        unfold maxLen at b3
        simp [hi]; omega
      · rw [List.getD_eq_getElem?_getD, List.getElem?_eq_none (by simp; omega)]
        simp
end

end Go.Proofs.Ytkhbiknjkffpjaa
end
section
set_option linter.unusedSimpArgs false
set_option linter.unusedVariables false
namespace Go.Proofs.Ytkhbiknjkffpjaa
open Go.RowKit Go.HL

theorem rng_int {n : Int} (h : (Lit.int .i64 n).wf = true) : -9223372036854775808 ≤ n ∧ n ≤ 9223372036854775807 := by
  simp only [Lit.wf, Bool.and_eq_true, decide_eq_true_eq] at h
  have e1 : IntKind.i64.min = -9223372036854775808 := rfl
  have e2 : IntKind.i64.max = 9223372036854775807 := rfl
  rw [e1, e2] at h
  exact h
theorem rng_row {w : World} {a : Option Addr} {len cap : Nat} {zs : List Int} (h : (a = none ∧ len = 0 ∧ cap = 0 ∧ zs = []) ∨
    ∃ x, a = some x ∧ len ≤ cap ∧ cap ≤ maxLen ∧ zs.length = cap ∧ (∀ i, i < zs.length → w.cell? (x.add i) = some (.int .i64 (zs.getD i 0))) ∧ ∀ n ∈ zs, (Lit.int .i64 n).wf = true) :
    ∀ k, k < (zs.take len).length → -9223372036854775808 ≤ (zs.take len).getD k 0 ∧ (zs.take len).getD k 0 ≤ 9223372036854775807 := by
  intro k hk
  have hm : (zs.take len).getD k 0 ∈ zs := by
    rw [List.getD_eq_getElem?_getD, List.getElem?_eq_getElem hk, Option.getD_some]
    exact List.mem_of_mem_take (List.getElem_mem hk)
  rcases h with ⟨_, _, _, rfl⟩ | ⟨x, _, _, _, _, _, h⟩
  · cases hm
  · exact rng_int (h _ hm)

end Go.Proofs.Ytkhbiknjkffpjaa
end
