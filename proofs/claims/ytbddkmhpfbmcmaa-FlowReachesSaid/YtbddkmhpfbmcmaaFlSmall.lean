/-
  OWN WORK. Contracts of the small helpers: Set, Same, SameInts, example.
-/
import Derived.Test.YtbddkmhpfbmcmaaFlAcross
set_option linter.unusedSimpArgs false
set_option linter.unusedVariables false
namespace Go.Proofs.Ytbddkmhpfbmcmaa
open Go.RowKit Go.SL

def bitsL (n : Int) : Nat → List Bool
  | 0 => []
  | k+1 => bitsL n k ++ [((n / 2 ^ k) % 2 == 1)]
theorem bitsL_len (n : Int) (k : Nat) : (bitsL n k).length = k := by induction k <;> simp [bitsL, *]

def SetPost (n : Nat) (bits : Int) (w : World) (e : Ending) (w' : World) : Prop := ∃ a cap, e = .returned (.slice a n cap) ∧ Sat w.heap.size w w' [row 4 1 0 (.slice a n cap) n (bools (bitsL bits n))]

set_option maxHeartbeats 400000 in
theorem set_any (n : Nat) (bits : Int) (w : World) (hn : n ≤ 300) (h1 : 0 ≤ bits) (h2 : bits ≤ 1024) :
    Calls Try.prog 23 #[.int .i64 n, .int .i64 bits] w (SetPost n bits w) := by
  go_enter Try.func23, Try.ntmps23
  go_wp2
  go_loopw [1, 5, 6] (fun b v i wr => ∃ (k : Nat) (a : Option Addr) (cap : Nat), k ≤ n ∧ i = .int .i64 k ∧ b = .int .i64 (bits / 2 ^ k) ∧ v = .slice a k cap ∧ Sat w.heap.size w wr [row 4 1 0 (.slice a k cap) k (bools (bitsL bits k))])
    (fun _ _ i _ => n - (intOf i).toNat)
  case atStart => exact ⟨0, none, 0, Nat.zero_le _, rfl, by simp, rfl, (Sat.init w).nil 4 1⟩
  case round =>
    obtain ⟨k, a, cap, hk, rfl, rfl, rfl, hS⟩ := hrel
    have hb0 : 0 ≤ bits / 2 ^ k := Int.ediv_nonneg h1 (Int.pow_nonneg (by decide))
    have hb1 : bits / 2 ^ k ≤ 1024 := Int.le_trans (Int.ediv_le_self _ h1) h2
    have hB2 : bits / 2 ^ (k + 1) = bits / 2 ^ k / 2 := by rw [Int.pow_succ, Int.ediv_ediv_of_nonneg (Int.pow_nonneg (by decide))]
    have hL : bitsL bits (k + 1) = bitsL bits k ++ [((bits / 2 ^ k) % 2 == 1)] := rfl
    generalize bits / 2 ^ k = B at *
    have HB := Lib.hid hB2; clear hB2
    have HL := Lib.hid hL; clear hL
    go_wp2_with (first
      | (at_builtin; refine wpList_app rfl T.bools _ _ rfl 0 rfl (hS.alloc _) rfl ⟨wr.heap.size, 0, none⟩ 1 1 [.bool (B % 2 == 1)] rfl (news_alloc _ _ _) (by simp [Value.oneCell']) rfl (by decide) (by decide) (by omega) (by unfold maxLen; omega) ?_; intro a' cap' w1 hS1))
    · go_wp2
      go_roundw
      case rel => exact ⟨k + 1, _, _, by omega, by go_num, by rw [HB.out], rfl, by rw [HL.out, show bools (bitsL bits k ++ [B % 2 == 1]) = bools (bitsL bits k) ++ [Value.bool (B % 2 == 1)] from List.map_append]; exact hS1⟩
      case measure => simp [intOf]; omega
    · have : k = n := by omega
      subst this
      go_ret
      exact ⟨_, _, rfl, hS⟩

theorem eq_upto {α : Type} {xs ys : List α} (hl : xs.length = ys.length) (h : ∀ j, j < xs.length → xs[j]? = ys[j]?) : xs = ys :=
  List.ext_getElem? fun i => by
    rcases Nat.lt_or_ge i xs.length with hi | hi
    · exact h i hi
    · rw [List.getElem?_eq_none hi, List.getElem?_eq_none (by omega)]

theorem belowDrewN {B : Nat} {w w' : World} (h : Below B w w') (n : Nat) : Below B w (w'.drewN n) := ⟨h.os, h.tape, h.output, h.size, h.block⟩

set_option maxHeartbeats 1000000 in
theorem same_any (a : Option Addr) (m cap : Nat) (xs : List Bool) (a2 : Option Addr) (m2 cap2 : Nat) (ys : List Bool) (w : World) (hr : rd w a (bools xs)) (hl : xs.length = m) (hr2 : rd w a2 (bools ys)) (hl2 : ys.length = m2) (hm : m ≤ 9223372036854775807) (hm2 : m2 ≤ 9223372036854775807) :
    Calls Try.prog 15 #[.slice a m cap, .slice a2 m2 cap2] w (RetB (xs = ys) w) := by
  go_enter Try.func15, Try.ntmps15
  by_cases hmm : m = m2
  · subst hmm
    go_wp2
    go_loopw [5] (fun i wr => ∃ k : Nat, k ≤ m ∧ i = .int .i64 k ∧ (∀ j, j < k → xs[j]? = ys[j]?) ∧ Below w.heap.size w wr) (fun i _ => m - (intOf i).toNat)
    case atStart => exact ⟨0, Nat.zero_le _, rfl, fun j hj => absurd hj (by omega), Below.refl _ _⟩
    case round =>
      obtain ⟨k, hk, rfl, hall, hb⟩ := hrel
      by_cases hlt : k < m
      · have hk1 : k < xs.length := by omega
        have hk2 : k < ys.length := by omega
        obtain ⟨g1, off1, rfl, hg1, hc1⟩ := (hr.below hb).opened (by simp; omega)
        obtain ⟨g2, off2, rfl, hg2, hc2⟩ := (hr2.below hb).opened (by simp; omega)
        have d1 := hc1 k _ (bools_get xs k hk1)
        have d2 := hc2 k _ (bools_get ys k hk2)
        have hx : xs[k]? = some xs[k] := List.getElem?_eq_getElem hk1
        have hy : ys[k]? = some ys[k] := List.getElem?_eq_getElem hk2
        clear hc1 hc2
        generalize xs[k] = x at *
        generalize ys[k] = y at *
        replace hx := Lib.hid hx
        replace hy := Lib.hid hy
        replace hall := Lib.hid hall
        by_cases hxy : x = y
        · subst hxy
          have hne : decide (x ≠ x) = false := by simp
          go_wp2_with fail
          go_quiet (fail)
          go_wp2_with fail
          go_roundw
          case rel =>
            refine ⟨k + 1, by omega, by go_num, fun j hj => ?_, belowDrewN hb nq⟩
            rcases Nat.lt_or_ge j k with h | h
            · exact hall.out j h
            · obtain rfl : j = k := by omega
              rw [hx.out, hy.out]
          case measure => simp [intOf]; omega
        · have hne : (!x == y) = true := by cases x <;> cases y <;> simp_all
          go_wp2_with fail
          go_quiet (fail)
          go_wp2_with fail
          go_ret
          refine RetB.no (fun h => ?_) (belowDrewN hb nq)
          subst h
          have := hx.out.symm.trans hy.out
          simp at this
          exact hxy this
      · obtain rfl : m = k := by omega
        go_wp2
        go_ret
        exact RetB.yes (eq_upto (by omega) (fun j hj => hall j (by omega))) hb
  · go_wp2
    go_ret
    exact RetB.no (fun h => hmm (by rw [← hl, ← hl2, h])) (Below.refl _ _)

set_option maxHeartbeats 1000000 in
theorem sameints_any (a : Option Addr) (m cap : Nat) (xs : List Int) (a2 : Option Addr) (m2 cap2 : Nat) (ys : List Int) (w : World) (hr : rd w a (ints xs)) (hl : xs.length = m) (hr2 : rd w a2 (ints ys)) (hl2 : ys.length = m2) (hm : m ≤ 9223372036854775807) (hm2 : m2 ≤ 9223372036854775807) :
    Calls Try.prog 34 #[.slice a m cap, .slice a2 m2 cap2] w (RetB (xs = ys) w) := by
  go_enter Try.func34, Try.ntmps34
  by_cases hmm : m = m2
  · subst hmm
    go_wp2
    go_loopw [5] (fun i wr => ∃ k : Nat, k ≤ m ∧ i = .int .i64 k ∧ (∀ j, j < k → xs[j]? = ys[j]?) ∧ Below w.heap.size w wr) (fun i _ => m - (intOf i).toNat)
    case atStart => exact ⟨0, Nat.zero_le _, rfl, fun j hj => absurd hj (by omega), Below.refl _ _⟩
    case round =>
      obtain ⟨k, hk, rfl, hall, hb⟩ := hrel
      by_cases hlt : k < m
      · have hk1 : k < xs.length := by omega
        have hk2 : k < ys.length := by omega
        obtain ⟨g1, off1, rfl, hg1, hc1⟩ := (hr.below hb).opened (by simp; omega)
        obtain ⟨g2, off2, rfl, hg2, hc2⟩ := (hr2.below hb).opened (by simp; omega)
        have d1 := hc1 k _ (ints_get xs k hk1)
        have d2 := hc2 k _ (ints_get ys k hk2)
        have hx : xs[k]? = some xs[k] := List.getElem?_eq_getElem hk1
        have hy : ys[k]? = some ys[k] := List.getElem?_eq_getElem hk2
        clear hc1 hc2
        generalize xs[k] = x at *
        generalize ys[k] = y at *
        replace hx := Lib.hid hx
        replace hy := Lib.hid hy
        replace hall := Lib.hid hall
        by_cases hxy : x = y
        · subst hxy
          have hne : decide (x ≠ x) = false := by simp
          go_wp2_with fail
          go_quiet (fail)
          go_wp2_with fail
          go_roundw
          case rel =>
            refine ⟨k + 1, by omega, by go_num, fun j hj => ?_, belowDrewN hb nq⟩
            rcases Nat.lt_or_ge j k with h | h
            · exact hall.out j h
            · obtain rfl : j = k := by omega
              rw [hx.out, hy.out]
          case measure => simp [intOf]; omega
        · have hne : decide (x ≠ y) = true := by simpa using hxy
          go_wp2_with fail
          go_quiet (fail)
          go_wp2_with fail
          go_ret
          refine RetB.no (fun h => ?_) (belowDrewN hb nq)
          subst h
          have := hx.out.symm.trans hy.out
          simp at this
          exact hxy this
      · obtain rfl : m = k := by omega
        go_wp2
        go_ret
        exact RetB.yes (eq_upto (by omega) (fun j hj => hall j (by omega))) hb
  · go_wp2
    go_ret
    exact RetB.no (fun h => hmm (by rw [← hl, ← hl2, h])) (Below.refl _ _)

def exL : List Edge := [⟨0, 1, 3⟩, ⟨0, 2, 2⟩, ⟨1, 3, 2⟩, ⟨2, 3, 4⟩, ⟨1, 2, 1⟩]
def ExPost (w : World) (e : Ending) (w' : World) : Prop := ∃ a, e = .returned (.slice a 5 5) ∧ Sat w.heap.size w w' [row 45 3 0 (.slice a 5 5) 5 (ecells exL)]

theorem example_any (w : World) : Calls Try.prog 33 #[] w (ExPost w) := by
  go_enter Try.func33, Try.ntmps33
  go_wp2_with fail
  go_ret
  exact ⟨_, rfl, (Sat.init w).lit (ecells exL) 45 3 5 rfl (by unfold maxLen; omega)⟩

end Go.Proofs.Ytbddkmhpfbmcmaa
