/-
  OWN WORK. Several small texts in one.
-/
import Derived.Test.YtkhbiknjkffpjaaNet
section
set_option linter.unusedSimpArgs false
set_option linter.unusedVariables false
namespace Go.Proofs.Ytkhbiknjkffpjaa
open Go.RowKit Go.SL

/-- The cells of the k-th edge. -/
theorem edge_cells {w : World} {g off : Nat} {es : List Edge} (hc : ∀ k u, (ecells es)[k]? = some u → w.cell? ⟨g, off + k, none⟩ = some u) (k : Nat) (hk : k < es.length) :
    w.cell? ⟨g, off + k * 3, none⟩ = some (.int .i64 es[k].f) ∧ w.cell? ⟨g, off + k * 3 + 1, none⟩ = some (.int .i64 es[k].t) ∧ w.cell? ⟨g, off + k * 3 + 2, none⟩ = some (.int .i64 es[k].c) := by
  obtain ⟨h1, h2, h3⟩ := ecells_get es k hk
  exact ⟨hc _ _ h1, hc _ _ h2, hc _ _ h3⟩

/-- A bool is returned, that says whether p; nothing old is changed. -/
def RetB (p : Prop) (w : World) (e : Ending) (w' : World) : Prop := ∃ b : Bool, e = .returned (.bool b) ∧ (b = true ↔ p) ∧ Below w.heap.size w w'

theorem RetB.no {p : Prop} {w w' : World} (h : ¬ p) (hb : Below w.heap.size w w') : RetB p w (.returned (.bool false)) w' := ⟨false, rfl, by simp [h], hb⟩
theorem RetB.yes {p : Prop} {w w' : World} (h : p) (hb : Below w.heap.size w w') : RetB p w (.returned (.bool true)) w' := ⟨true, rfl, by simp [h], hb⟩

theorem VNet.bounds {n s t : Int} {es : List Edge} (h : VNet n s t es) : 2 ≤ n ∧ n ≤ 258 ∧ 0 ≤ s ∧ s < n ∧ 0 ≤ t ∧ t < n ∧ ¬ s = t ∧ es.length ≤ 65536 := ⟨h.n2, h.n258, h.s0, h.sn, h.t0, h.tn, h.st, h.len⟩

theorem all_upto {n : Int} {es : List Edge} {k : Nat} {hk : k < es.length} (h : ∀ j (hj : j < es.length), j < k → VEdge n es[j]) (he : VEdge n es[k]) : ∀ j (hj : j < es.length), j < k + 1 → VEdge n es[j] := by
  intro j hj hlt
  rcases Nat.lt_or_ge j k with h1 | h1
  · exact h j hj h1
  · obtain rfl : j = k := by omega
    exact he

set_option maxHeartbeats 4000000 in
theorem valid_any (n : Int) (a : Option Addr) (m cap : Nat) (es : List Edge) (s t : Int) (w : World) (hr : rd w a (ecells es)) (hl : es.length = m) (hm : m ≤ 9223372036854775807) :
    Calls Try.prog 52 #[.int .i64 n, .slice a m cap, .int .i64 s, .int .i64 t] w (RetB (VNet n s t es) w) := by
  by_cases hv : 2 ≤ n ∧ n ≤ 258 ∧ 0 ≤ s ∧ s < n ∧ 0 ≤ t ∧ t < n ∧ ¬ s = t ∧ m ≤ 65536
  · obtain ⟨v1, v2, v3, v4, v5, v6, v7, v8⟩ := hv
    have v9 : (s == t) = false := by simpa using v7
    replace hl := Lib.hid hl
    go_enter Try.func52, Try.ntmps52
    go_wp2
    go_loopw [47] (fun i wr => ∃ k : Nat, k ≤ m ∧ i = .int .i64 k ∧ (∀ j (hj : j < es.length), j < k → VEdge n es[j]) ∧ Below w.heap.size w wr) (fun i _ => m - (intOf i).toNat)
    case atStart => exact ⟨0, Nat.zero_le _, rfl, by intro j hj h; omega, Below.refl _ _⟩
    case round =>
      obtain ⟨k, hk, rfl, hall, hb⟩ := hrel
      replace hall := Lib.hid hall
      by_cases hlt : k < m
      · have hk' : k < es.length := by have := hl.out; omega
        obtain ⟨g, off, rfl, hg, hc⟩ := (hr.below hb).opened (by rw [ecells_length]; have := hl.out; omega)
        obtain ⟨c1, c2, c3⟩ := edge_cells hc k hk'
        clear hc
        by_cases hev : VEdge n es[k]
        · obtain ⟨x1, x2, x3, x4, x5, x6, x7⟩ := hev
          have y1 : (es[k].f == es[k].t) = false := by simpa using x5
          go_wp2
          go_roundw
          case rel => exact ⟨k + 1, by omega, by go_num, all_upto hall.out ⟨x1, x2, x3, x4, x5, x6, x7⟩, hb.alloc hb.size _⟩
          case measure => simp [intOf]; omega
        · have hno : ¬ VNet n s t es := fun h => hev (h.all _ (List.getElem_mem _))
          replace hno := Lib.hid hno
          have hev2 := Lib.hid hev
          clear hev
          go_wp2
          all_goals
            first
            | (exfalso; exact hev2.out ⟨by omega, by omega, by omega, by omega, by first | assumption | omega | simpa using ‹_›, by omega, by omega⟩)
            | (go_ret; exact RetB.no hno.out (hb.alloc hb.size _))
      · go_wp2
        go_ret
        have : k = m := by omega
        subst this
        exact RetB.yes ⟨v1, v2, v3, v4, v5, v6, v7, by rw [hl.out]; exact v8, fun e he => by
          obtain ⟨j, hj, rfl⟩ := List.getElem_of_mem he
          exact hall.out j hj (by rw [← hl.out]; exact hj)⟩ hb
  · go_enter Try.func52, Try.ntmps52
    go_wp2
    all_goals
      go_ret
      refine RetB.no (fun h => ?_) (Below.refl _ _)
      have := h.bounds
      first | omega | (simp at *; omega)

end Go.Proofs.Ytkhbiknjkffpjaa
end
section
set_option linter.unusedSimpArgs false
set_option linter.unusedVariables false
namespace Go.Proofs.Ytkhbiknjkffpjaa
open Go.RowKit Go.SL

/-- Does the edge lead out of the set? -/
def crossB (set : List Bool) (e : Edge) : Bool := decide (0 ≤ e.f) && (decide (0 ≤ e.t) && ((set[e.f.toNat]?.getD false) && !(set[e.t.toNat]?.getD true)))
theorem bools_get (l : List Bool) (k : Nat) (hk : k < l.length) : (bools l)[k]? = some (.bool l[k]) := by simp [hk]
theorem ints_get (l : List Int) (k : Nat) (hk : k < l.length) : (ints l)[k]? = some (.int .i64 l[k]) := by simp [hk]

end Go.Proofs.Ytkhbiknjkffpjaa
end
section
set_option linter.unusedSimpArgs false
set_option linter.unusedVariables false
namespace Go.Proofs.Ytkhbiknjkffpjaa

theorem getD_lt {α : Type} (l : List α) (d : α) {k : Nat} (h : k < l.length) : l.getD k d = l[k] := by simp [h]
theorem getD_ge {α : Type} (l : List α) (d : α) {k : Nat} (h : l.length ≤ k) : l.getD k d = d := by simp [h]
theorem getD_set_eq {α : Type} (l : List α) (d x : α) {k : Nat} (h : k < l.length) : (l.set k x).getD k d = x := by simp [h]
theorem getD_set_ne {α : Type} (l : List α) (d x : α) {k j : Nat} (h : j ≠ k) : (l.set k x).getD j d = l.getD j d := by
  simp [List.getElem?_set_ne (by omega : k ≠ j)]

end Go.Proofs.Ytkhbiknjkffpjaa
end
