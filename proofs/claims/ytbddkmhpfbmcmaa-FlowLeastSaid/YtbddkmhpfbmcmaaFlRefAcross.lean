/-
  OWN WORK. Contract of the reference's Across.
-/
import Derived.Test.YtbddkmhpfbmcmaaFlAcross
set_option linter.unusedSimpArgs false
set_option linter.unusedVariables false
namespace Go.Proofs.Ytbddkmhpfbmcmaa
open Go.RowKit Go.SL

set_option maxHeartbeats 4000000 in
theorem refacross_any (n : Int) (a : Option Addr) (m cap : Nat) (es : List Edge) (a2 : Option Addr) (m2 cap2 : Nat) (set : List Bool) (w : World) (hr : rd w a (ecells es)) (hl : es.length = m) (hm : m ≤ 9223372036854775807)
    (hr2 : rd w a2 (bools set)) (hl2 : set.length = m2) (hm2 : m2 ≤ 9223372036854775807) :
    Calls Try.prog 25 #[.int .i64 n, .slice a m cap, .slice a2 m2 cap2] w (RetI (acrossW n es set) w) := by
  by_cases hn : (m2 : Int) = n
  · have hfin : acrossW n es set = acrW set es := by unfold acrossW; rw [if_pos (by omega)]
    rw [hfin]
    replace hfin := trivial
    obtain rfl := hn
    replace hl := Lib.hid hl
    replace hl2 := Lib.hid hl2
    go_enter Try.func25, Try.ntmps25
    go_wp2
    go_loopw [7, 8] (fun x i wr => ∃ k : Nat, k ≤ m ∧ i = .int .i64 k ∧ x = .int .i64 (acrW set (es.take k)) ∧ Below w.heap.size w wr) (fun _ i _ => m - (intOf i).toNat)
    case atStart => exact ⟨0, Nat.zero_le _, rfl, rfl, Below.refl _ _⟩
    case round =>
      obtain ⟨k, hk, rfl, rfl, hB⟩ := hrel
      by_cases hlt : k < m
      · have hk' : k < es.length := by have := hl.out; omega
        obtain ⟨g, off, rfl, hg, hc⟩ := (hr.below hB).opened (by rw [ecells_length]; have := hl.out; omega)
        obtain ⟨c1, c2, c3⟩ := edge_cells hc k hk'
        have hstep := acrW_take set es k hk'
        have hr2' := hr2.below hB
        clear hc
        generalize acrW set (es.take k) = x at *
        generalize he : es[k] = ed at *
        clear he
        obtain ⟨f, t, c⟩ := ed
        simp only at c1 c2 c3
        replace hB := hB.alloc hB.size (.cells #[.int .i64 f, .int .i64 t, .int .i64 c] 45)
        replace hstep := Lib.hid hstep
        by_cases hf : 0 ≤ f ∧ f < m2
        · obtain ⟨hf0, hf1⟩ := hf
          obtain ⟨f, rfl⟩ := Int.eq_ofNat_of_zero_le hf0
          have hf1' : f < set.length := by have := hl2.out; omega
          obtain ⟨g2, off2, rfl, hg2, hc2⟩ := hr2'.opened (by simp; have := hl2.out; omega)
          have d1 := hc2 f _ (bools_get set f hf1')
          by_cases ht : 0 ≤ t ∧ t < m2
          · obtain ⟨ht0, ht1⟩ := ht
            obtain ⟨t, rfl⟩ := Int.eq_ofNat_of_zero_le ht0
            have ht1' : t < set.length := by have := hl2.out; omega
            have d2 := hc2 t _ (bools_get set t ht1')
            clear hc2
            have hcr : crossB set ⟨f, t, c⟩ = (set[f] && !set[t]) := by simp [crossB, hf1', ht1']
            rw [acrStep, hcr] at hstep
            replace hcr := trivial
            generalize set[f] = bf at *
            generalize set[t] = bt at *
            cases bf
            · go_wp2_with fail
              go_roundw
              case rel => exact ⟨k + 1, by omega, by go_num, by rw [hstep.out]; rfl, hB⟩
              case measure => simp [intOf]; omega
            · cases bt
              · go_wp2_with fail
                go_roundw
                case rel => exact ⟨k + 1, by omega, by go_num, by rw [hstep.out]; rfl, hB⟩
                case measure => simp [intOf]; omega
              · go_wp2_with fail
                go_roundw
                case rel => exact ⟨k + 1, by omega, by go_num, by rw [hstep.out]; rfl, hB⟩
                case measure => simp [intOf]; omega
          · clear hc2
            have hcr : crossB set ⟨f, t, c⟩ = false := cross_no2 (by rw [hl2.out]; exact ht)
            rw [acrStep, hcr] at hstep
            by_cases ht0 : 0 ≤ t
            · have ht1 : ¬ t < m2 := fun h => ht ⟨ht0, h⟩
              replace ht := Lib.hid ht
              go_wp2_with fail
              go_roundw
              case rel => exact ⟨k + 1, by omega, by go_num, by rw [hstep.out]; rfl, hB⟩
              case measure => simp [intOf]; omega
            · replace ht := Lib.hid ht
              go_wp2_with fail
              go_roundw
              case rel => exact ⟨k + 1, by omega, by go_num, by rw [hstep.out]; rfl, hB⟩
              case measure => simp [intOf]; omega
        · have hcr : crossB set ⟨f, t, c⟩ = false := cross_no1 (by rw [hl2.out]; exact hf)
          rw [acrStep, hcr] at hstep
          by_cases hf0 : 0 ≤ f
          · have hf1 : ¬ f < m2 := fun h => hf ⟨hf0, h⟩
            replace hf := Lib.hid hf
            go_wp2_with fail
            go_roundw
            case rel => exact ⟨k + 1, by omega, by go_num, by rw [hstep.out]; rfl, hB⟩
            case measure => simp [intOf]; omega
          · replace hf := Lib.hid hf
            go_wp2_with fail
            go_roundw
            case rel => exact ⟨k + 1, by omega, by go_num, by rw [hstep.out]; rfl, hB⟩
            case measure => simp [intOf]; omega
      · go_wp2
        go_ret
        have : k = m := by omega
        subst this
        exact ⟨ret_int (by rw [List.take_of_length_le (by have := hl.out; omega)]), hB⟩
  · have hfin : acrossW n es set = 0 := by unfold acrossW; rw [if_neg (by omega)]
    rw [hfin]
    clear hfin
    go_enter Try.func25, Try.ntmps25
    go_wp2
    go_ret
    exact ⟨rfl, Below.refl _ _⟩

end Go.Proofs.Ytbddkmhpfbmcmaa
