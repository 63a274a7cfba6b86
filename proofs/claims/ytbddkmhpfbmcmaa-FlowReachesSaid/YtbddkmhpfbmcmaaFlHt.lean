/-
  OWN WORK. The contracts of package flow's functions, and of those that make networks, in the value language.
-/
import Derived.Test.YtbddkmhpfbmcmaaHb
import Derived.Test.YtbddkmhpfbmcmaaFlLives
import Derived.Test.YtbddkmhpfbmcmaaFlRefs
import Derived.Test.YtbddkmhpfbmcmaaFlAcross
import Derived.Test.YtbddkmhpfbmcmaaFlCut
import Derived.Test.YtbddkmhpfbmcmaaFlCheck
import Derived.Test.YtbddkmhpfbmcmaaFlCode
import Derived.Test.YtbddkmhpfbmcmaaFlSmall
set_option linter.unusedSimpArgs false
set_option linter.unusedVariables false
namespace Go.Proofs.Ytbddkmhpfbmcmaa
open Go.RowKit Go.SL Go.HL

theorem callable {f : FuncId} {x} (h : funCode Try.prog f = some x) : Callable Try.prog f := by
  unfold funCode at h
  split at h
  · rename_i fn hfn
    split at h
    · rename_i c rs hb _
      split at h
      · cases h
      · rename_i hn; exact ⟨fn, hfn, by rw [hb]; rfl, by simpa using hn⟩
    · cases h
  · cases h

/-- Nothing owned comes back. -/
theorem gives_plain {F : Nat → Prop} {w w' : World} {K : HV → Prop} {v : HV} {rv : Value} (hk : K v) (hb : Below w.heap.size w w') (ho : ∀ (F : Nat → Prop) (h : Hp), OW F h noR [v] [rv] []) : Gives F w K (.returned rv) w' :=
  ⟨rv, v, [], rfl, hk, ho _ _, by simp, by simp, hb⟩

theorem ht_mod (a m : Int) (hm : 0 < m) (hm2 : m ≤ 1099511627776) : HT Try.prog 20 [.int .i64 a, .int .i64 m] (fun r => r = .int .i64 (a % m)) := by
  refine ⟨callable fc20, fun w rargs F hF ho => ?_⟩
  obtain ⟨_, _, rfl, o1, q2⟩ := of_consE ho
  obtain ⟨_, _, rfl, o2, q3⟩ := of_consE q2
  obtain rfl := of_nilE q3
  obtain rfl := of_int o1
  obtain rfl := of_int o2
  exact (mod_any a m w hm hm2).mono fun e w' ⟨h1, h2⟩ => by subst h1 h2; exact gives_plain rfl (Below.refl _ _) fun F h => .int .nil

def NetV (n : Int) (m : Nat) (r : HV) : Prop := ∃ (es : List Edge) (s t : Int), r = .tup [.int .i64 n, .osl 3 m (edges es), .int .i64 s, .int .i64 t] ∧ VNet n s t es ∧ es.length = m

theorem ht_big (xs : List Int) (n : Int) (m : Nat) (hl : xs.length ≤ 9223372036854775807) (hn0 : 2 ≤ n) (hn1 : n ≤ 258) (hm : m ≤ 300) : HT Try.prog 26 [I xs, .int .i64 n, .int .i64 m] (NetV n m) := by
  refine ⟨callable fc26, fun w rargs F hF ho => ?_⟩
  obtain ⟨_, _, rfl, o1, q2⟩ := of_consE ho
  obtain ⟨_, _, rfl, o2, q3⟩ := of_consE q2
  obtain ⟨_, _, rfl, o3, q4⟩ := of_consE q3
  obtain rfl := of_nilE q4
  obtain ⟨a, cap, rfl, hr⟩ := rd_ints hF o1
  obtain rfl := of_int o2
  obtain rfl := of_int o3
  refine (big27_any a _ cap xs n m w hr rfl hl hn0 hn1 hm).mono ?_
  rintro e w' ⟨es, s, t, a', cap', rfl, hv, hlen, hS⟩
  obtain ⟨fs, h1, h2, h3⟩ := row_own hS (i := 0) rfl (cs := edges es) (fun F h => edges_own es)
  refine ⟨_, .tup [.int .i64 n, .osl 3 m (edges es), .int .i64 s, .int .i64 t], fs, rfl, ⟨es, s, t, rfl, hv, hlen⟩, ?_, h2, h3, hS.below⟩
  have h4 := fun G => OW.tup (F := G) (h := w'.heap) (R := noR) (cs := [.int .i64 n, .osl 3 m (edges es), .int .i64 s, .int .i64 t]) (.int ((h1 G).cons1 (.int (.int .nil)))) .nil
  simpa using h4 _

theorem ht_network (xs : List Int) (hl : xs.length ≤ 9223372036854775807) : HT Try.prog 11 [I xs] (fun r => ∃ (n : Int) (m : Nat), 2 ≤ n ∧ n ≤ 8 ∧ m ≤ 20 ∧ NetV n m r) := by
  refine ⟨callable fc11, fun w rargs F hF ho => ?_⟩
  obtain ⟨_, _, rfl, o1, q4⟩ := of_consE ho
  obtain rfl := of_nilE q4
  obtain ⟨a, cap, rfl, hr⟩ := rd_ints hF o1
  refine (net27_any a _ cap xs w hr rfl hl).mono ?_
  rintro e w' ⟨es, n, s, t, a', m, cap', rfl, hv, hn, hm, hlen, hS⟩
  obtain ⟨fs, h1, h2, h3⟩ := row_own hS (i := 0) rfl (cs := edges es) (fun F h => edges_own es)
  refine ⟨_, .tup [.int .i64 n, .osl 3 m (edges es), .int .i64 s, .int .i64 t], fs, rfl, ⟨n, m, hv.n2, hn, hm, es, s, t, rfl, hv, hlen⟩, ?_, h2, h3, hS.below⟩
  have h4 := fun G => OW.tup (F := G) (h := w'.heap) (R := noR) (cs := [.int .i64 n, .osl 3 m (edges es), .int .i64 s, .int .i64 t]) (.int ((h1 G).cons1 (.int (.int .nil)))) .nil
  simpa using h4 _

def MaxV (n s t : Nat) (es : List Edge) (r : HV) : Prop := ∃ (fl : List Int) (set : List Bool) (value : Int), r = .tup [.int .i64 value, .osl 1 es.length (HL.ints fl), .int .i64 0] ∧ Found n s t es fl set value

theorem ht_max (n s t : Nat) (es : List Edge) (hv : VNet n s t es) : HT Try.prog 13 [.int .i64 n, Es es, .int .i64 s, .int .i64 t] (MaxV n s t es) := by
  refine ⟨callable fc13, fun w rargs F hF ho => ?_⟩
  obtain ⟨_, _, rfl, o1, q2⟩ := of_consE ho
  obtain ⟨_, _, rfl, o2, q3⟩ := of_consE q2
  obtain ⟨_, _, rfl, o3, q4⟩ := of_consE q3
  obtain ⟨_, _, rfl, o4, q5⟩ := of_consE q4
  obtain rfl := of_nilE q5
  obtain ⟨a, cap, rfl, hr⟩ := rd_edges hF o2
  obtain rfl := of_int o1
  obtain rfl := of_int o3
  obtain rfl := of_int o4
  refine (max_any n a _ cap es s t w hr rfl hv).mono ?_
  rintro e w' ⟨fl, set, value, a', cap', rfl, hf, hS⟩
  obtain ⟨fs, h1, h2, h3⟩ := row_own hS (i := 0) rfl (cs := HL.ints fl) (fun F h => ints_own fl)
  refine ⟨_, .tup [.int .i64 value, .osl 1 es.length (HL.ints fl), .int .i64 0], fs, rfl, ⟨fl, set, value, rfl, hf⟩, ?_, h2, h3, hS.below⟩
  have h4 := fun G => OW.tup (F := G) (h := w'.heap) (R := noR) (cs := [.int .i64 value, .osl 1 es.length (HL.ints fl), .int .i64 0]) (.int ((h1 G).cons1 (.int .nil))) .nil
  simpa using h4 _

def CutV (n s t : Nat) (es : List Edge) (r : HV) : Prop := ∃ (fl : List Int) (set : List Bool) (value : Int), r = .tup [.osl 1 n (HL.bools set), .int .i64 0] ∧ Found n s t es fl set value

theorem ht_cut (n s t : Nat) (es : List Edge) (hv : VNet n s t es) : HT Try.prog 14 [.int .i64 n, Es es, .int .i64 s, .int .i64 t] (CutV n s t es) := by
  refine ⟨callable fc14, fun w rargs F hF ho => ?_⟩
  obtain ⟨_, _, rfl, o1, q2⟩ := of_consE ho
  obtain ⟨_, _, rfl, o2, q3⟩ := of_consE q2
  obtain ⟨_, _, rfl, o3, q4⟩ := of_consE q3
  obtain ⟨_, _, rfl, o4, q5⟩ := of_consE q4
  obtain rfl := of_nilE q5
  obtain ⟨a, cap, rfl, hr⟩ := rd_edges hF o2
  obtain rfl := of_int o1
  obtain rfl := of_int o3
  obtain rfl := of_int o4
  refine (cut_any n a _ cap es s t w hr rfl hv).mono ?_
  rintro e w' ⟨fl, set, value, a', cap', rfl, hf, hS⟩
  obtain ⟨fs, h1, h2, h3⟩ := row_own hS (i := 0) rfl (cs := HL.bools set) (fun F h => bools_own set)
  refine ⟨_, .tup [.osl 1 n (HL.bools set), .int .i64 0], fs, rfl, ⟨fl, set, value, rfl, hf⟩, ?_, h2, h3, hS.below⟩
  have h4 := fun G => OW.tup (F := G) (h := w'.heap) (R := noR) (cs := [.osl 1 n (HL.bools set), .int .i64 0]) ((h1 G).cons1 (.int .nil)) .nil
  simpa using h4 _

theorem ht_across (n : Int) (es : List Edge) (set : List Bool) (h1 : es.length ≤ 9223372036854775807) (h2 : set.length ≤ 9223372036854775807) : HT Try.prog 24 [.int .i64 n, Es es, Bl set] (fun r => r = .int .i64 (acrossW n es set)) := by
  refine ⟨callable fc24, fun w rargs F hF ho => ?_⟩
  obtain ⟨_, _, rfl, o1, q2⟩ := of_consE ho
  obtain ⟨_, _, rfl, o2, q3⟩ := of_consE q2
  obtain ⟨_, _, rfl, o3, q4⟩ := of_consE q3
  obtain rfl := of_nilE q4
  obtain rfl := of_int o1
  obtain ⟨a, cap, rfl, hr⟩ := rd_edges hF o2
  obtain ⟨a2, cap2, rfl, hr2⟩ := rd_bools hF o3
  refine (across_any n a _ cap es a2 _ cap2 set w hr rfl h1 hr2 rfl h2).mono ?_
  rintro e w' ⟨rfl, hb⟩
  exact gives_plain rfl hb fun F h => .int .nil

theorem ht_check (n : Nat) (es : List Edge) (s t : Nat) (fl : List Int) (hv : VNet n s t es) (hl : fl.length = es.length) : HT Try.prog 21 [.int .i64 n, Es es, .int .i64 s, .int .i64 t, I fl] (fun r => ∃ x y, r = .tup [.int .i64 x, .int .i64 y] ∧ CheckR n s t es fl x y) := by
  refine ⟨callable fc21, fun w rargs F hF ho => ?_⟩
  obtain ⟨_, _, rfl, o1, q2⟩ := of_consE ho
  obtain ⟨_, _, rfl, o2, q3⟩ := of_consE q2
  obtain ⟨_, _, rfl, o3, q4⟩ := of_consE q3
  obtain ⟨_, _, rfl, o4, q5⟩ := of_consE q4
  obtain ⟨_, _, rfl, o5, q6⟩ := of_consE q5
  obtain rfl := of_nilE q6
  obtain rfl := of_int o1
  obtain rfl := of_int o3
  obtain rfl := of_int o4
  obtain ⟨a, cap, rfl, hr⟩ := rd_edges hF o2
  obtain ⟨a2, cap2, rfl, hr2⟩ := rd_ints hF o5
  have hm : es.length ≤ 9223372036854775807 := by have := hv.len; omega
  refine (check_net n a _ cap es s t a2 _ cap2 fl w hr rfl hm hr2 rfl (by omega) hv hl.symm).mono ?_
  rintro e w' ⟨x, y, ⟨rfl, hb⟩, hR⟩
  refine gives_plain ⟨x, y, rfl, hR⟩ hb fun F h => ?_
  have := OW.tup (F := F) (h := h) (R := noR) (cs := [.int .i64 x, .int .i64 y]) (.int (.int .nil)) .nil
  simpa using this

theorem ht_same (xs ys : List Bool) (h1 : xs.length ≤ 9223372036854775807) (h2 : ys.length ≤ 9223372036854775807) : HT Try.prog 15 [Bl xs, Bl ys] (fun r => r = .bool (decide (xs = ys))) := by
  refine ⟨callable fc15, fun w rargs F hF ho => ?_⟩
  obtain ⟨_, _, rfl, o1, q2⟩ := of_consE ho
  obtain ⟨_, _, rfl, o2, q3⟩ := of_consE q2
  obtain rfl := of_nilE q3
  obtain ⟨a, cap, rfl, hr⟩ := rd_bools hF o1
  obtain ⟨a2, cap2, rfl, hr2⟩ := rd_bools hF o2
  refine (same_any a _ cap xs a2 _ cap2 ys w hr rfl hr2 rfl h1 h2).mono ?_
  rintro e w' ⟨b, rfl, hb, hB⟩
  have : b = decide (xs = ys) := by
    cases b with
    | true => exact (decide_eq_true (hb.1 rfl)).symm
    | false => exact (decide_eq_false (fun h => by have := hb.2 h; cases this)).symm
  subst this
  exact gives_plain rfl hB fun F h => .bool .nil

theorem ht_lives : HT Try.prog 19 [] (fun r => r = .bool true) := by
  refine ⟨callable fc19, fun w rargs F hF ho => ?_⟩
  obtain rfl := of_nilE ho
  refine (lives_any w).mono ?_
  rintro e w' ⟨rfl, hb⟩
  exact gives_plain rfl hb fun F h => .bool .nil

end Go.Proofs.Ytbddkmhpfbmcmaa
