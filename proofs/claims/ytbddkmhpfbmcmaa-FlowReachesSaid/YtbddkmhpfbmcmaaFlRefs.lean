/-
  OWN WORK. Contracts of the reference functions of layer 27 (and 24's Mod).
-/
import Derived.Test.YtbddkmhpfbmcmaaNet
set_option linter.unusedSimpArgs false
set_option linter.unusedVariables false
namespace Go.Proofs.Ytbddkmhpfbmcmaa
open Go.RowKit Go.SL

theorem mod_any (n m : Int) (w : World) (hm : 0 < m) (hm2 : m ≤ 1099511627776) :
    Calls Try.prog 20 #[.int .i64 n, .int .i64 m] w fun e w' => e = .returned (.int .i64 (n % m)) ∧ w = w' := by
  have hb := tmod_bd n m hm
  have hz : ¬ m = 0 := by omega
  have h1 := tmod_mod n m hm
  go_enter Try.func20, Try.ntmps20
  go_wp2
  go_ret
  exact ⟨ret_int rfl, rfl⟩

/-- num returns a small number, whatever the list. -/
theorem num27_any (a : Option Addr) (n cap : Nat) (xs : List Int) (i : Int) (w : World) (hr : rd w a (ints xs)) (hl : xs.length = n) (hn : n ≤ 9223372036854775807) (hi0 : 0 ≤ i) (hi1 : i ≤ 100000) :
    Calls Try.prog 31 #[.slice a n cap, .int .i64 i] w fun e w' => ∃ r : Int, e = .returned (.int .i64 r) ∧ -1048576 ≤ r ∧ r ≤ 2148576 ∧ ∃ q, w' = w.drewN q := by
  by_cases h0 : n = 0
  · subst h0
    go_enter Try.func31, Try.ntmps31
    go_wp2
    go_ret
    exact ⟨0, rfl, by omega, by omega, 0, rfl⟩
  · obtain ⟨g, off, rfl, hg, hc⟩ := hr.opened (by first | omega | (simp; done) | (simp; omega))
    obtain ⟨k, rfl⟩ := Int.eq_ofNat_of_zero_le hi0
    have hk : k % n < n := Nat.mod_lt _ (by omega)
    have hcell : w.cell? ⟨g, off + k % n, none⟩ = some (.int .i64 (xs[k % n]'(by omega))) := hc _ _ (by first | omega | (simp; done) | (simp; omega))
    clear hc
    generalize hx : xs[k % n]'(by omega) = x at hcell
    have hb := tmod_bd x 1048576 (by omega)
    have hnz : ¬ (n : Int) = 0 := by omega
    have hz2 : ((n : Int) == 0) = false := by simp; omega
    have hm1 : (0 : Int) ≤ (k : Int) % n := Int.emod_nonneg _ hnz
    have hm2 : (k : Int) % n < n := Int.emod_lt_of_pos _ (by omega)
    have hd1 : (0 : Int) ≤ (k : Int) / n := Int.ediv_nonneg (by omega) (by omega)
    have hd2 : (k : Int) / n ≤ k := Int.ediv_le_self _ (by omega)
    have hwr : IntKind.i64.wrap (x.tmod 1048576 + 11 * ((k : Int) / n)) = x.tmod 1048576 + 11 * ((k : Int) / n) := IntWalk.i64_in _ (by omega)
    clear hx
    go_enter Try.func31, Try.ntmps31
    go_wp2
    go_quiet (fail)
    go_wp2
    go_ret
    exact ⟨_, rfl, by omega, by omega, _, rfl⟩

theorem cap27_any (n : Int) (w : World) (h0 : -1048576 ≤ n) (h1 : n ≤ 2148576) :
    Calls Try.prog 36 #[.int .i64 n] w fun e w' => ∃ r : Int, e = .returned (.int .i64 r) ∧ 0 ≤ r ∧ r ≤ 1099511627776 ∧ w = w' := by
  have hd := tdiv_bd n 12 (by omega) 2148576 (by omega) (by omega) h1
  have g1 : 0 ≤ (n.tdiv 12) % 9 ∧ (n.tdiv 12) % 9 < 9 := by omega
  have g2 : 0 ≤ (n.tdiv 12) % 20 ∧ (n.tdiv 12) % 20 < 20 := by omega
  go_enter Try.func36, Try.ntmps36
  go_wp2_with (first | (go_at_call 20; refine (mod_any _ _ _ (by omega) (by omega)).mono ?_; rintro e w' ⟨rfl, rfl⟩))
  all_goals
    go_ret
    exact ⟨_, rfl, by omega, by omega, rfl⟩

theorem mod_rng (n m : Int) (w : World) (hm : 0 < m) (hm2 : m ≤ 1099511627776) :
    Calls Try.prog 20 #[.int .i64 n, .int .i64 m] w fun e w' => ∃ r : Int, e = .returned (.int .i64 r) ∧ 0 ≤ r ∧ r < m ∧ w = w' :=
  (mod_any n m w hm hm2).mono fun _ _ ⟨h1, h2⟩ => ⟨_, h1, Int.emod_nonneg _ (by omega), Int.emod_lt_of_pos _ hm, h2⟩

/-- The node that lies r2 + 1 behind r1. -/
theorem next_ne (n r1 r2 : Int) (h0 : 0 ≤ r1) (h1 : r1 < n) (h2 : 0 ≤ r2) (h3 : r2 < n - 1) : 0 ≤ (r1 + 1 + r2) % n ∧ (r1 + 1 + r2) % n < n ∧ r1 ≠ (r1 + 1 + r2) % n := by
  refine ⟨Int.emod_nonneg _ (by omega), Int.emod_lt_of_pos _ (by omega), ?_⟩
  by_cases h : r1 + 1 + r2 < n
  · rw [Int.emod_eq_of_lt (by omega) h]; omega
  · have : (r1 + 1 + r2) % n = r1 + 1 + r2 - n := by
      rw [← Int.sub_emod_right, Int.emod_eq_of_lt (by omega) (by omega)]
    omega

theorem vedge_next {n r1 r2 c : Int} (h0 : 0 ≤ r1) (h1 : r1 < n) (h2 : 0 ≤ r2) (h3 : r2 < n - 1) (c0 : 0 ≤ c) (c1 : c ≤ 1099511627776) : VEdge n ⟨r1, (r1 + 1 + r2) % n, c⟩ :=
  have h := next_ne n r1 r2 h0 h1 h2 h3
  ⟨h0, h1, h.1, h.2.1, h.2.2, c0, c1⟩
theorem all_snoc {p : Edge → Prop} {l : List Edge} {e : Edge} (h : ∀ x ∈ l, p x) (he : p e) : ∀ x ∈ l ++ [e], p x := by
  intro x hx
  rcases List.mem_append.1 hx with h1 | h1
  · exact h x h1
  · simp at h1; subst h1; exact he

/-- Big returns a valid network. -/
theorem big27_any (a : Option Addr) (ln cap : Nat) (xs : List Int) (n : Int) (m : Nat) (w : World) (hr : rd w a (ints xs)) (hl : xs.length = ln) (hln : ln ≤ 9223372036854775807) (hn0 : 2 ≤ n) (hn1 : n ≤ 258) (hm : m ≤ 300) :
    Calls Try.prog 26 #[.slice a ln cap, .int .i64 n, .int .i64 m] w fun e w' => ∃ (es : List Edge) (s t : Int) (a' : Option Addr) (cap' : Nat), e = .returned (.tuple #[.int .i64 n, .slice a' m cap', .int .i64 s, .int .i64 t]) ∧
      VNet n s t es ∧ es.length = m ∧ Sat w.heap.size w w' [row 45 3 0 (.slice a' m cap') m (ecells es)] := by
  have nx := next_ne n
  have NX := Lib.hid nx; clear nx
  go_enter Try.func26, Try.ntmps26
  go_wp2_with fail
  refine (num27_any a ln cap xs _ _ (by repeat (first | assumption | refine rd.drewN ?_ _ | refine rd.drew ?_ | refine rd.alloc ?_ _)) hl hln (by omega) (by omega)).mono ?_
  rintro e w' ⟨r0, rfl, u0, u1, q0, rfl⟩
  go_wp2_with fail
  refine (mod_rng _ _ _ (by omega) (by omega)).mono ?_
  rintro e w' ⟨s1, rfl, b0, b1, rfl⟩
  go_wp2_with fail
  refine (num27_any a ln cap xs _ _ (by repeat (first | assumption | refine rd.drewN ?_ _ | refine rd.drew ?_ | refine rd.alloc ?_ _)) hl hln (by omega) (by omega)).mono ?_
  rintro e w' ⟨r, rfl, hr0, hr1, q, rfl⟩
  go_wp2_with fail
  refine (mod_rng _ _ _ (by omega) (by omega)).mono ?_
  rintro e w' ⟨s, rfl, hs0, hs1, rfl⟩
  go_wp2_with fail
  have hst := NX.out s1 s b0 b1 hs0 hs1
  generalize (s1 + 1 + s) % n = t1 at *
  have HNE := Lib.hid hst.2.2
  have ht0 := hst.1
  have ht1 := hst.2.1
  clear hst u0 u1 hr0 hr1 hs0 hs1
  go_loopw [12, 13] (fun v i wr => ∃ (k : Nat) (es : List Edge) (a' : Option Addr) (cap' : Nat), k ≤ m ∧ i = .int .i64 k ∧ v = .slice a' k cap' ∧ es.length = k ∧ (∀ e ∈ es, VEdge n e) ∧ Sat w.heap.size w wr [row 45 3 0 (.slice a' k cap') k (ecells es)])
    (fun _ i _ => m - (intOf i).toNat)
  case atStart => exact ⟨0, [], none, 0, Nat.zero_le _, rfl, rfl, rfl, by simp, ((Sat.init w).drewN _).nil 45 3⟩
  case round =>
    obtain ⟨k, es, a', cap', hk, rfl, rfl, hlen, hall, hS⟩ := hrel
    replace hlen := Lib.hid hlen
    replace hall := Lib.hid hall
    have hrr := hr.below hS.below
    go_wp2_with (first
      | (go_at_call 20; refine (mod_rng _ _ _ (by omega) (by omega)).mono ?_; rintro e w' ⟨s, rfl, hs0, hs1, rfl⟩)
      | (go_at_call 31; refine (num27_any a ln cap xs _ _ (by repeat (first | assumption | refine rd.drewN ?_ _ | refine rd.drew ?_ | refine rd.alloc ?_ _)) hl hln (by omega) (by omega)).mono ?_; rintro e w' ⟨r, rfl, hr0, hr1, q, rfl⟩)
      | (go_at_call 36; refine (cap27_any _ _ (by omega) (by omega)).mono ?_; rintro e w' ⟨c, rfl, hc0, hc1, rfl⟩)
      | (at_builtin; go_must (refine wpList_app rfl T.edges _ _ rfl 0 rfl ((hS.drewN _).alloc _) rfl ⟨wr.heap.size, 0, none⟩ 1 1 _ rfl (news_alloc _ _ _) (by simp [Value.oneCell']) rfl (by decide) (by decide) (by omega) (by unfold maxLen; omega) ?_; intro a1 cap1 w1 hS1)))
    · go_roundw
      case rel =>
        refine ⟨k + 1, es ++ [⟨_, _, _⟩], a1, cap1, by omega, by go_num, rfl, by simp [hlen.out], ?_, by rw [ecells_append]; exact hS1⟩
        exact all_snoc hall.out (vedge_next (by assumption) (by assumption) (by assumption) (by assumption) (by assumption) (by assumption))
      case measure => simp [intOf]; omega
    · have : k = m := by omega
      subst this
      refine bodyPost_ret (v := .tuple #[.int .i64 n, .slice a' k cap', .int .i64 s1, .int .i64 t1]) (by simp [results, Try.results26, go_sem]) rfl ?_
      exact ⟨es, s1, t1, a', cap', rfl, ⟨hn0, hn1, b0, b1, ht0, ht1, HNE.out, by rw [hlen.out]; omega, hall.out⟩, hlen.out, hS⟩

theorem net27_any (a : Option Addr) (ln cap : Nat) (xs : List Int) (w : World) (hr : rd w a (ints xs)) (hl : xs.length = ln) (hln : ln ≤ 9223372036854775807) :
    Calls Try.prog 11 #[.slice a ln cap] w fun e w' => ∃ (es : List Edge) (n s t : Int) (a' : Option Addr) (m cap' : Nat), e = .returned (.tuple #[.int .i64 n, .slice a' m cap', .int .i64 s, .int .i64 t]) ∧
      VNet n s t es ∧ n ≤ 8 ∧ m ≤ 20 ∧ es.length = m ∧ Sat w.heap.size w w' [row 45 3 0 (.slice a' m cap') m (ecells es)] := by
  go_enter Try.func11, Try.ntmps11
  go_wp2_with fail
  refine (num27_any a ln cap xs _ _ (by repeat (first | assumption | refine rd.drewN ?_ _ | refine rd.drew ?_ | refine rd.alloc ?_ _)) hl hln (by omega) (by omega)).mono ?_
  rintro e w' ⟨r0, rfl, u0, u1, q0, rfl⟩
  go_wp2_with fail
  refine (mod_rng _ _ _ (by omega) (by omega)).mono ?_
  rintro e w' ⟨s1, rfl, b0, b1, rfl⟩
  go_wp2_with fail
  refine (num27_any a ln cap xs _ _ (by repeat (first | assumption | refine rd.drewN ?_ _ | refine rd.drew ?_ | refine rd.alloc ?_ _)) hl hln (by omega) (by omega)).mono ?_
  rintro e w' ⟨r, rfl, hr0, hr1, q, rfl⟩
  go_wp2_with fail
  refine (mod_rng _ _ _ (by omega) (by omega)).mono ?_
  rintro e w' ⟨m, rfl, hs0, hs1, rfl⟩
  obtain ⟨m, rfl⟩ := Int.eq_ofNat_of_zero_le hs0
  go_wp2_with fail
  refine (big27_any a ln cap xs _ _ _ (by repeat (first | assumption | refine rd.drewN ?_ _ | refine rd.drew ?_ | refine rd.alloc ?_ _)) hl hln (by omega) (by omega) (by omega)).mono ?_
  rintro e w' ⟨es, s, t, a', cap', rfl, hv, hlen, hS⟩
  replace hlen := Lib.hid hlen
  replace hv := Lib.hid hv
  go_wp2_with fail
  refine bodyPost_ret (v := .tuple #[.int .i64 (2 + s1), .slice a' m cap', .int .i64 s, .int .i64 t]) (by simp [results, Try.results11, go_sem]) rfl ?_
  exact ⟨es, _, s, t, a', m, cap', rfl, hv.out, by omega, by omega, hlen.out, ((Sat.init w).drewN _).call hS⟩

end Go.Proofs.Ytbddkmhpfbmcmaa
