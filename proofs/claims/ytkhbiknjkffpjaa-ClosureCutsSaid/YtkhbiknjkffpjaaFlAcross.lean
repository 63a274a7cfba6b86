/-
  OWN WORK. Contracts of flow.Across and of the reference's.
-/
import Derived.Test.YtkhbiknjkffpjaaFlCode
set_option linter.unusedSimpArgs false
set_option linter.unusedVariables false
namespace Go.Proofs.Ytkhbiknjkffpjaa
open Go.RowKit Go.SL

/-- Does the edge lead out of the set? -/
def crossB (set : List Bool) (e : Edge) : Bool := decide (0 ≤ e.f) && (decide (0 ≤ e.t) && ((set[e.f.toNat]?.getD false) && !(set[e.t.toNat]?.getD true)))
def acrStep (set : List Bool) (x : Int) (e : Edge) : Int := if crossB set e then wrap64 (x + e.c) else x
def acrW (set : List Bool) (es : List Edge) : Int := es.foldl (acrStep set) 0
/-- Across, as the document says. -/
def acrossW (n : Int) (es : List Edge) (set : List Bool) : Int := if (set.length : Int) = n then acrW set es else 0

theorem acrW_take (set : List Bool) (es : List Edge) (k : Nat) (hk : k < es.length) : acrW set (es.take (k + 1)) = acrStep set (acrW set (es.take k)) es[k] := by
  unfold acrW
  rw [List.take_succ_eq_append_getElem hk, List.foldl_append]
  rfl

theorem cross_no1 {set : List Bool} {f t c : Int} (h : ¬ (0 ≤ f ∧ f < (set.length : Int))) : crossB set ⟨f, t, c⟩ = false := by
  by_cases h0 : 0 ≤ f
  · have : set[f.toNat]? = none := by simp; omega
    simp [crossB, this]
  · simp [crossB, h0]
theorem cross_no2 {set : List Bool} {f t c : Int} (h : ¬ (0 ≤ t ∧ t < (set.length : Int))) : crossB set ⟨f, t, c⟩ = false := by
  by_cases h0 : 0 ≤ t
  · have : set[t.toNat]? = none := by simp; omega
    simp [crossB, this]
  · simp [crossB, h0]

theorem bools_get (l : List Bool) (k : Nat) (hk : k < l.length) : (bools l)[k]? = some (.bool l[k]) := by simp [hk]
theorem ints_get (l : List Int) (k : Nat) (hk : k < l.length) : (ints l)[k]? = some (.int .i64 l[k]) := by simp [hk]

theorem in_any (i n : Int) (b : Nat) (w : World) (h : w.cell? ⟨b, 0, none⟩ = some (.int .i64 n)) :
    Calls Try.prog 55 #[.int .i64 i, .pointer (some ⟨b, 0, none⟩)] w fun e w' => e = .returned (.bool (decide (0 ≤ i ∧ i < n))) ∧ w = w' := by
  by_cases h0 : 0 ≤ i
  · by_cases h1 : i < n
    · go_enter Try.func55, Try.ntmps55
      go_wp2
      go_ret
      exact ⟨by simp [h0, h1], rfl⟩
    · go_enter Try.func55, Try.ntmps55
      go_wp2
      go_ret
      exact ⟨by simp [h1], rfl⟩
  · go_enter Try.func55, Try.ntmps55
    go_wp2
    go_ret
    exact ⟨by rw [decide_eq_false (p := 0 ≤ i) (by omega)]; rfl, rfl⟩

theorem in_yes (i n : Int) (b : Nat) (w : World) (h : w.cell? ⟨b, 0, none⟩ = some (.int .i64 n)) (h0 : 0 ≤ i) (h1 : i < n) :
    Calls Try.prog 55 #[.int .i64 i, .pointer (some ⟨b, 0, none⟩)] w fun e w' => e = .returned (.bool true) ∧ w = w' :=
  (in_any i n b w h).mono fun _ _ ⟨h2, h3⟩ => ⟨by rw [h2, decide_eq_true ⟨h0, h1⟩], h3⟩
theorem in_no (i n : Int) (b : Nat) (w : World) (h : w.cell? ⟨b, 0, none⟩ = some (.int .i64 n)) (h0 : ¬ (0 ≤ i ∧ i < n)) :
    Calls Try.prog 55 #[.int .i64 i, .pointer (some ⟨b, 0, none⟩)] w fun e w' => e = .returned (.bool false) ∧ w = w' :=
  (in_any i n b w h).mono fun _ _ ⟨h2, h3⟩ => ⟨by rw [h2, decide_eq_false h0], h3⟩

/-- The sum is returned; nothing old is changed. -/
def RetI (r : Int) (w : World) (e : Ending) (w' : World) : Prop := e = .returned (.int .i64 r) ∧ Below w.heap.size w w'

set_option maxHeartbeats 4000000 in
theorem across_any (n : Int) (a : Option Addr) (m cap : Nat) (es : List Edge) (a2 : Option Addr) (m2 cap2 : Nat) (set : List Bool) (w : World) (hr : rd w a (ecells es)) (hl : es.length = m) (hm : m ≤ 9223372036854775807)
    (hr2 : rd w a2 (bools set)) (hl2 : set.length = m2) (hm2 : m2 ≤ 9223372036854775807) :
    Calls Try.prog 35 #[.int .i64 n, .slice a m cap, .slice a2 m2 cap2] w (RetI (acrossW n es set) w) := by
  by_cases hn : (m2 : Int) = n
  · have hfin : acrossW n es set = acrW set es := by unfold acrossW; rw [if_pos (by omega)]
    rw [hfin]
    replace hfin := trivial
    obtain rfl := hn
    replace hl := Lib.hid hl
    replace hl2 := Lib.hid hl2
    go_enter Try.func35, Try.ntmps35
    go_wp2
    go_loopw [8, 18] (fun x i wr => ∃ k : Nat, k ≤ m ∧ i = .int .i64 k ∧ x = .int .i64 (acrW set (es.take k)) ∧ Sat w.heap.size w wr [blk w.heap.size [.int .i64 m2] 3]) (fun _ i _ => m - (intOf i).toNat)
    case atStart => exact ⟨0, Nat.zero_le _, rfl, rfl, (Sat.init w).var [.int .i64 m2] 3⟩
    case round =>
      obtain ⟨k, hk, rfl, rfl, hS⟩ := hrel
      by_cases hlt : k < m
      · have hk' : k < es.length := by have := hl.out; omega
        obtain ⟨g, off, rfl, hg, hc⟩ := (hr.below hS.below).opened (by rw [ecells_length]; have := hl.out; omega)
        obtain ⟨c1, c2, c3⟩ := edge_cells hc k hk'
        have cn := hS.blkCell 0 rfl 0
        have hbl := lt_of_heap (hS.blk 0 rfl)
        have hstep := acrW_take set es k hk'
        have hr2' := hr2.below hS.below
        clear hc
        generalize acrW set (es.take k) = x at *
        generalize he : es[k] = ed at *
        clear he
        obtain ⟨f, t, c⟩ := ed
        simp only at c1 c2 c3
        have cn' : ∀ o, (wr.alloc o).cell? ⟨w.heap.size, 0, none⟩ = some (.int .i64 m2) := fun o => by rw [World.cell?_alloc_past _ _ _ hbl]; exact cn
        replace cn' := Lib.hid cn'
        clear cn
        replace hS := hS.alloc (.cells #[.int .i64 f, .int .i64 t, .int .i64 c] 67)
        replace hstep := Lib.hid hstep
        by_cases hf : 0 ≤ f ∧ f < m2
        · obtain ⟨hf0, hf1⟩ := hf
          obtain ⟨f, rfl⟩ := Int.eq_ofNat_of_zero_le hf0
          have hf1' : f < set.length := by have := hl2.out; omega
          obtain ⟨g2, off2, rfl, hg2, hc2⟩ := hr2'.opened (by simp; have := hl2.out; omega)
          have d1 := hc2 f _ (bools_get set f hf1')
          by_cases ht : 0 ≤ t ∧ t < m2
          · obtain ⟨ht0, ht1⟩ := ht
            obtain ⟨t, rfl⟩ := Int.eq_ofNat_of_zero_le ht0
            have ht1' : t < set.length := by have := hl2.out; omega
            have d2 := hc2 t _ (bools_get set t ht1')
            clear hc2
            have hcr : crossB set ⟨f, t, c⟩ = (set[f] && !set[t]) := by simp [crossB, hf1', ht1']
            rw [acrStep, hcr] at hstep
            replace hcr := trivial
            generalize set[f] = bf at *
            generalize set[t] = bt at *
            cases bf
            · go_wp2_with (go_at_call 55; refine (in_yes _ _ _ _ (cn'.out _) (by omega) (by omega)).mono ?_; rintro e w' ⟨rfl, rfl⟩)
              go_roundw
              case rel => exact ⟨k + 1, by omega, by go_num, by rw [hstep.out]; rfl, hS⟩
              case measure => simp [intOf]; omega
            · cases bt
              · go_wp2_with (go_at_call 55; refine (in_yes _ _ _ _ (cn'.out _) (by omega) (by omega)).mono ?_; rintro e w' ⟨rfl, rfl⟩)
                go_roundw
                case rel => exact ⟨k + 1, by omega, by go_num, by rw [hstep.out]; rfl, hS⟩
                case measure => simp [intOf]; omega
              · go_wp2_with (go_at_call 55; refine (in_yes _ _ _ _ (cn'.out _) (by omega) (by omega)).mono ?_; rintro e w' ⟨rfl, rfl⟩)
                go_roundw
                case rel => exact ⟨k + 1, by omega, by go_num, by rw [hstep.out]; rfl, hS⟩
                case measure => simp [intOf]; omega
          · clear hc2
            have hcr : crossB set ⟨f, t, c⟩ = false := cross_no2 (by rw [hl2.out]; exact ht)
            rw [acrStep, hcr] at hstep
            replace ht := Lib.hid ht
            go_wp2_with (first
              | (go_at_call 55; refine (in_yes _ _ _ _ (cn'.out _) (by omega) (by omega)).mono ?_; rintro e w' ⟨rfl, rfl⟩)
              | (go_at_call 55; refine (in_no _ _ _ _ (cn'.out _) ht.out).mono ?_; rintro e w' ⟨rfl, rfl⟩))
            go_roundw
            case rel => exact ⟨k + 1, by omega, by go_num, by rw [hstep.out]; rfl, hS⟩
            case measure => simp [intOf]; omega
        · have hcr : crossB set ⟨f, t, c⟩ = false := cross_no1 (by rw [hl2.out]; exact hf)
          rw [acrStep, hcr] at hstep
          replace hf := Lib.hid hf
          go_wp2_with (go_at_call 55; refine (in_no _ _ _ _ (cn'.out _) hf.out).mono ?_; rintro e w' ⟨rfl, rfl⟩)
          go_roundw
          case rel => exact ⟨k + 1, by omega, by go_num, by rw [hstep.out]; rfl, hS⟩
          case measure => simp [intOf]; omega
      · go_wp2
        go_ret
        have : k = m := by omega
        subst this
        exact ⟨ret_int (by rw [List.take_of_length_le (by have := hl.out; omega)]), hS.below⟩
  · have hfin : acrossW n es set = 0 := by unfold acrossW; rw [if_neg (by omega)]
    rw [hfin]
    clear hfin
    go_enter Try.func35, Try.ntmps35
    go_wp2
    go_ret
    exact ⟨rfl, (Below.refl _ _).alloc (Nat.le_refl _) _⟩

end Go.Proofs.Ytkhbiknjkffpjaa
