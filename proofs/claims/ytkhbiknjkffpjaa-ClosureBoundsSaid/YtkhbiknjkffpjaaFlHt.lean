/-
  OWN WORK. Several small texts in one.
-/
import Derived.Test.YtkhbiknjkffpjaaNet
import Derived.Test.YtkhbiknjkffpjaaList
import Derived.Test.YtkhbiknjkffpjaaHb
import Derived.Test.YtkhbiknjkffpjaaFlCut
import Derived.Test.YtkhbiknjkffpjaaFlCheck
section
set_option linter.unusedSimpArgs false
set_option linter.unusedVariables false
namespace Go.Proofs.Ytkhbiknjkffpjaa
open Go.RowKit Go.SL

end Go.Proofs.Ytkhbiknjkffpjaa
end
section
set_option linter.unusedSimpArgs false
set_option linter.unusedVariables false
namespace Go.Proofs.Ytkhbiknjkffpjaa
open Go.RowKit Go.SL

theorem eq_upto {α : Type} {xs ys : List α} (hl : xs.length = ys.length) (h : ∀ j, j < xs.length → xs[j]? = ys[j]?) : xs = ys :=
  List.ext_getElem? fun i => by
    rcases Nat.lt_or_ge i xs.length with hi | hi
    · exact h i hi
    · rw [List.getElem?_eq_none hi, List.getElem?_eq_none (by omega)]

theorem belowDrewN {B : Nat} {w w' : World} (h : Below B w w') (n : Nat) : Below B w (w'.drewN n) := ⟨h.os, h.tape, h.output, h.size, h.block⟩

set_option maxHeartbeats 1000000 in
theorem same_any (a : Option Addr) (m cap : Nat) (xs : List Bool) (a2 : Option Addr) (m2 cap2 : Nat) (ys : List Bool) (w : World) (hr : rd w a (bools xs)) (hl : xs.length = m) (hr2 : rd w a2 (bools ys)) (hl2 : ys.length = m2) (hm : m ≤ 9223372036854775807) (hm2 : m2 ≤ 9223372036854775807) :
    Calls Try.prog 17 #[.slice a m cap, .slice a2 m2 cap2] w (RetB (xs = ys) w) := by
  go_enter Try.func17, Try.ntmps17
  by_cases hmm : m = m2
  · subst hmm
    go_wp2
    go_loopw [5] (fun i wr => ∃ k : Nat, k ≤ m ∧ i = .int .i64 k ∧ (∀ j, j < k → xs[j]? = ys[j]?) ∧ Below w.heap.size w wr) (fun i _ => m - (intOf i).toNat)
    case atStart => exact ⟨0, Nat.zero_le _, rfl, fun j hj => absurd hj (by omega), Below.refl _ _⟩
    case round =>
      obtain ⟨k, hk, rfl, hall, hb⟩ := hrel
      by_cases hlt : k < m
      · have hk1 : k < xs.length := by omega
        have hk2 : k < ys.length := by omega
        obtain ⟨g1, off1, rfl, hg1, hc1⟩ := (hr.below hb).opened (by simp; omega)
        obtain ⟨g2, off2, rfl, hg2, hc2⟩ := (hr2.below hb).opened (by simp; omega)
        have d1 := hc1 k _ (bools_get xs k hk1)
        have d2 := hc2 k _ (bools_get ys k hk2)
        have hx : xs[k]? = some xs[k] := List.getElem?_eq_getElem hk1
        have hy : ys[k]? = some ys[k] := List.getElem?_eq_getElem hk2
        clear hc1 hc2
        generalize xs[k] = x at *
        generalize ys[k] = y at *
        replace hx := Lib.hid hx
        replace hy := Lib.hid hy
        replace hall := Lib.hid hall
        by_cases hxy : x = y
        · subst hxy
          have hne : decide (x ≠ x) = false := by simp
          go_wp2_with fail
          go_quiet (fail)
          go_wp2_with fail
          go_roundw
          case rel =>
            refine ⟨k + 1, by omega, by go_num, fun j hj => ?_, belowDrewN hb nq⟩
            rcases Nat.lt_or_ge j k with h | h
            · exact hall.out j h
            · obtain rfl : j = k := by omega
              rw [hx.out, hy.out]
          case measure => simp [intOf]; omega
        · have hne : (!x == y) = true := by cases x <;> cases y <;> simp_all
          go_wp2_with fail
          go_quiet (fail)
          go_wp2_with fail
          go_ret
          refine RetB.no (fun h => ?_) (belowDrewN hb nq)
          subst h
          have := hx.out.symm.trans hy.out
          simp at this
          exact hxy this
      · obtain rfl : m = k := by omega
        go_wp2
        go_ret
        exact RetB.yes (eq_upto (by omega) (fun j hj => hall j (by omega))) hb
  · go_wp2
    go_ret
    exact RetB.no (fun h => hmm (by rw [← hl, ← hl2, h])) (Below.refl _ _)

end Go.Proofs.Ytkhbiknjkffpjaa
end
section
set_option linter.unusedSimpArgs false
set_option linter.unusedVariables false
namespace Go.Proofs.Ytkhbiknjkffpjaa
open Go.RowKit Go.SL Go.HL

theorem callable {f : FuncId} {x} (h : funCode Try.prog f = some x) : Callable Try.prog f := by
  unfold funCode at h
  split at h
  · rename_i fn hfn
    split at h
    · rename_i c rs hb _
      split at h
      · cases h
      · rename_i hn; exact ⟨fn, hfn, by rw [hb]; rfl, by simpa using hn⟩
    · cases h
  · cases h

/-- Nothing owned comes back. -/
theorem gives_plain {F : Nat → Prop} {w w' : World} {K : HV → Prop} {v : HV} {rv : Value} (hk : K v) (hb : Below w.heap.size w w') (ho : ∀ (F : Nat → Prop) (h : Hp), OW F h noR [v] [rv] []) : Gives F w K (.returned rv) w' :=
  ⟨rv, v, [], rfl, hk, ho _ _, by simp, by simp, hb⟩

def MaxV (n s t : Nat) (es : List Edge) (r : HV) : Prop := ∃ (fl : List Int) (set : List Bool) (value : Int), r = .tup [.int .i64 value, .osl 1 es.length (HL.ints fl), .int .i64 0] ∧ Found n s t es fl set value

theorem ht_max (n s t : Nat) (es : List Edge) (hv : VNet n s t es) : HT Try.prog 48 [.int .i64 n, Es es, .int .i64 s, .int .i64 t] (MaxV n s t es) := by
  refine ⟨callable fc48, fun w rargs F hF ho => ?_⟩
  obtain ⟨_, _, rfl, o1, q2⟩ := of_consE ho
  obtain ⟨_, _, rfl, o2, q3⟩ := of_consE q2
  obtain ⟨_, _, rfl, o3, q4⟩ := of_consE q3
  obtain ⟨_, _, rfl, o4, q5⟩ := of_consE q4
  obtain rfl := of_nilE q5
  obtain ⟨a, cap, rfl, hr⟩ := rd_edges hF o2
  obtain rfl := of_int o1
  obtain rfl := of_int o3
  obtain rfl := of_int o4
  refine (max_any n a _ cap es s t w hr rfl hv).mono ?_
  rintro e w' ⟨fl, set, value, a', cap', rfl, hf, hS⟩
  obtain ⟨fs, h1, h2, h3⟩ := row_own hS (i := 0) rfl (cs := HL.ints fl) (fun F h => ints_own fl)
  refine ⟨_, .tup [.int .i64 value, .osl 1 es.length (HL.ints fl), .int .i64 0], fs, rfl, ⟨fl, set, value, rfl, hf⟩, ?_, h2, h3, hS.below⟩
  have h4 := fun G => OW.tup (F := G) (h := w'.heap) (R := noR) (cs := [.int .i64 value, .osl 1 es.length (HL.ints fl), .int .i64 0]) (.int ((h1 G).cons1 (.int .nil))) .nil
  simpa using h4 _

def CutV (n s t : Nat) (es : List Edge) (r : HV) : Prop := ∃ (fl : List Int) (set : List Bool) (value : Int), r = .tup [.osl 1 n (HL.bools set), .int .i64 0] ∧ Found n s t es fl set value

theorem ht_cut (n s t : Nat) (es : List Edge) (hv : VNet n s t es) : HT Try.prog 33 [.int .i64 n, Es es, .int .i64 s, .int .i64 t] (CutV n s t es) := by
  refine ⟨callable fc33, fun w rargs F hF ho => ?_⟩
  obtain ⟨_, _, rfl, o1, q2⟩ := of_consE ho
  obtain ⟨_, _, rfl, o2, q3⟩ := of_consE q2
  obtain ⟨_, _, rfl, o3, q4⟩ := of_consE q3
  obtain ⟨_, _, rfl, o4, q5⟩ := of_consE q4
  obtain rfl := of_nilE q5
  obtain ⟨a, cap, rfl, hr⟩ := rd_edges hF o2
  obtain rfl := of_int o1
  obtain rfl := of_int o3
  obtain rfl := of_int o4
  refine (cut_any n a _ cap es s t w hr rfl hv).mono ?_
  rintro e w' ⟨fl, set, value, a', cap', rfl, hf, hS⟩
  obtain ⟨fs, h1, h2, h3⟩ := row_own hS (i := 0) rfl (cs := HL.bools set) (fun F h => bools_own set)
  refine ⟨_, .tup [.osl 1 n (HL.bools set), .int .i64 0], fs, rfl, ⟨fl, set, value, rfl, hf⟩, ?_, h2, h3, hS.below⟩
  have h4 := fun G => OW.tup (F := G) (h := w'.heap) (R := noR) (cs := [.osl 1 n (HL.bools set), .int .i64 0]) ((h1 G).cons1 (.int .nil)) .nil
  simpa using h4 _

theorem ht_check (n : Nat) (es : List Edge) (s t : Nat) (fl : List Int) (hv : VNet n s t es) (hl : fl.length = es.length) : HT Try.prog 50 [.int .i64 n, Es es, .int .i64 s, .int .i64 t, I fl] (fun r => ∃ x y, r = .tup [.int .i64 x, .int .i64 y] ∧ CheckR n s t es fl x y) := by
  refine ⟨callable fc50, fun w rargs F hF ho => ?_⟩
  obtain ⟨_, _, rfl, o1, q2⟩ := of_consE ho
  obtain ⟨_, _, rfl, o2, q3⟩ := of_consE q2
  obtain ⟨_, _, rfl, o3, q4⟩ := of_consE q3
  obtain ⟨_, _, rfl, o4, q5⟩ := of_consE q4
  obtain ⟨_, _, rfl, o5, q6⟩ := of_consE q5
  obtain rfl := of_nilE q6
  obtain rfl := of_int o1
  obtain rfl := of_int o3
  obtain rfl := of_int o4
  obtain ⟨a, cap, rfl, hr⟩ := rd_edges hF o2
  obtain ⟨a2, cap2, rfl, hr2⟩ := rd_ints hF o5
  have hm : es.length ≤ 9223372036854775807 := by have := hv.len; omega
  refine (check_net n a _ cap es s t a2 _ cap2 fl w hr rfl hm hr2 rfl (by omega) hv hl.symm).mono ?_
  rintro e w' ⟨x, y, ⟨rfl, hb⟩, hR⟩
  refine gives_plain ⟨x, y, rfl, hR⟩ hb fun F h => ?_
  have := OW.tup (F := F) (h := h) (R := noR) (cs := [.int .i64 x, .int .i64 y]) (.int (.int .nil)) .nil
  simpa using this

theorem ht_same (xs ys : List Bool) (h1 : xs.length ≤ 9223372036854775807) (h2 : ys.length ≤ 9223372036854775807) : HT Try.prog 17 [Bl xs, Bl ys] (fun r => r = .bool (decide (xs = ys))) := by
  refine ⟨callable fc17, fun w rargs F hF ho => ?_⟩
  obtain ⟨_, _, rfl, o1, q2⟩ := of_consE ho
  obtain ⟨_, _, rfl, o2, q3⟩ := of_consE q2
  obtain rfl := of_nilE q3
  obtain ⟨a, cap, rfl, hr⟩ := rd_bools hF o1
  obtain ⟨a2, cap2, rfl, hr2⟩ := rd_bools hF o2
  refine (same_any a _ cap xs a2 _ cap2 ys w hr rfl hr2 rfl h1 h2).mono ?_
  rintro e w' ⟨b, rfl, hb, hB⟩
  have : b = decide (xs = ys) := by
    cases b with
    | true => exact (decide_eq_true (hb.1 rfl)).symm
    | false => exact (decide_eq_false (fun h => by have := hb.2 h; cases this)).symm
  subst this
  exact gives_plain rfl hB fun F h => .bool .nil

end Go.Proofs.Ytkhbiknjkffpjaa
end
