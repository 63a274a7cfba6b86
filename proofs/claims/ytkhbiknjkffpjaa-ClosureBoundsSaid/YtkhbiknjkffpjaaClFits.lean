/-
  OWN WORK. Searches through lists, and fits and Closed of package closure, in the value language.
-/
import Derived.Test.YtkhbiknjkffpjaaGrW
set_option linter.unusedSimpArgs false
set_option linter.unusedVariables false
namespace Go.Proofs.Ytkhbiknjkffpjaa
open Go.RowKit Go.SL Go.HL

theorem any_take_succ {α : Type} (l : List α) (p : α → Bool) (d : α) {i : Nat} (hi : i < l.length) : (l.take (i + 1)).any p = ((l.take i).any p || p (l.getD i d)) := by
  rw [List.take_succ_eq_append_getElem hi, List.any_append]
  simp [List.getD_eq_getElem?_getD, hi]
theorem any_of_take {α : Type} (l : List α) (p : α → Bool) {i : Nat} (h : (l.take i).any p = true) : l.any p = true := by
  rw [List.any_eq_true] at h ⊢
  obtain ⟨x, hx, h2⟩ := h
  exact ⟨x, List.mem_of_mem_take hx, h2⟩
theorem getD_memI {α : Type} (l : List α) (d : α) {i : Nat} (hi : i < l.length) : l.getD i d ∈ l := by
  rw [List.getD_eq_getElem?_getD, List.getElem?_eq_getElem hi, Option.getD_some]; exact List.getElem_mem hi

set_option maxHeartbeats 4000000 in
theorem ht_idx (l : List Int) (n : Nat) (set : List Bool) (f : FuncId) (p : Int → Bool) (hl : l.length ≤ 9223372036854775807) (hp : ∀ x ∈ l, HT Try.prog f [.int .i64 x, .ptr [.sl n (HL.bools set)] 0] (fun r => r = .bool (p x))) :
    HT Try.prog 59 [I l, .fn f [.ptr [.sl n (HL.bools set)] 0]] (fun r => ∃ e : Int, r = .int .i64 e ∧ -1 ≤ e ∧ (0 ≤ e ↔ l.any p = true)) := by
  refine HT.of rfl fc59 (Nat.le_of_ble_eq_true rfl) ?_
  unfold c59
  simp only [I, argSlots, Nat.reduceAdd]
  repeat (first | refine F_mv zT0 rfl ?_ | refine F_nil zT1 ?_ | refine F_lenS (by rfl) ?_ | refine hx_seq ?_ | refine hx_region ?_ | refine hx_block ?_)
  refine hx_loopG [0, 1, 7, 8] (fun i : Nat => i ≤ l.length ∧ (l.take i).any p = false) (fun i => ⟨[(0, .sl l.length (HL.ints l)), (1, .fn f [.ptr [.sl n (HL.bools set)] 0]), (7, .int .i64 l.length), (8, .int .i64 i)], [], 0⟩) (fun i => l.length - i) 0 ⟨by omega, rfl⟩ rfl ?_
  rintro i ⟨hi, hno⟩
  by_cases hil : i < l.length
  · obtain ⟨x, hx⟩ : ∃ x, l.getD i 0 = x := ⟨_, rfl⟩
    have hst := any_take_succ l p 0 hil
    rw [hx, hno, Bool.false_or] at hst
    repeat (first | refine F_mv zT0 rfl ?_ | refine F_iaS (by rfl) (by rfl) (by omega) zT1 ?_ | refine F_ldP (by rfl) (by (try simp only [go_sem]); first | omega | decide) (by (try simp (disch := omega) only [go_sem, hx]); try rfl) ?_ | refine F_nil zT1 ?_ | refine F_lss (by rfl) (by rfl) zT6 ?_ | refine hx_true (by rfl) ?_ | refine hx_seq ?_ | refine hx_region ?_ | refine hx_block ?_ | refine hx_skip ?_)
    refine F_callv (by rfl) (by (try simp only [List.map_cons, List.map_nil]); repeat (first | (apply eL1; · exact zT0) | rfl)) zT2 (hp x (hx ▸ getD_memI l 0 hil)) ?_
    rintro _ rfl
    refine ⟨zT3, _, _, _, _, _, zT4, (by decide), (by simp only [upF, upS]; try rfl), ?_⟩
    cases hpx : p x with
    | true =>
      repeat (first | refine F_mv zT0 rfl ?_ | refine F_nil zT1 ?_ | refine hx_true (by rfl) ?_ | refine hx_seq ?_ | refine hx_region ?_)
      refine hx_retF (by (try simp only [List.map_cons, List.map_nil]); repeat (first | (apply eL1; · exact zT0) | rfl)) zT5 zT7 ?_
      exact ⟨i, rfl, by omega, by rw [any_of_take l p (hst.trans hpx)]; simp⟩
    | false =>
      repeat (first | refine F_mv zT0 rfl ?_ | refine F_nil zT1 ?_ | refine F_add (by rfl) (by rfl) zT11 ?_ | refine hx_false (by rfl) ?_ | refine hx_region ?_ | refine hx_b ?_ | refine hx_skip ?_)
      exact hx_lG [0, 1, 7, 8] (i + 1) ⟨hil, hst.trans hpx⟩ (by omega) rfl
  · obtain rfl : i = l.length := by omega
    rw [List.take_length] at hno
    repeat (first | refine F_mv zT0 rfl ?_ | refine F_nil zT1 ?_ | refine F_lss (by rfl) (by rfl) zT6 ?_ | refine hx_exitS (by rfl) ?_ | refine hx_false (by rfl) ?_ | refine hx_seq ?_ | refine hx_region ?_)
    refine hx_retF (by (try simp only [List.map_cons, List.map_nil]); repeat (first | (apply eL1; · exact zT0) | rfl)) zT5 zT7 ?_
    exact ⟨-1, rfl, by omega, by rw [hno]; simp⟩
theorem ht_any (l : List Int) (n : Nat) (set : List Bool) (f : FuncId) (p : Int → Bool) (hl : l.length ≤ 9223372036854775807) (hp : ∀ x ∈ l, HT Try.prog f [.int .i64 x, .ptr [.sl n (HL.bools set)] 0] (fun r => r = .bool (p x))) :
    HT Try.prog 41 [I l, .fn f [.ptr [.sl n (HL.bools set)] 0]] (fun r => r = .bool (l.any p)) := by
  refine HT.of rfl fc41 (Nat.le_of_ble_eq_true rfl) ?_
  unfold c41
  simp only [I, argSlots, Nat.reduceAdd]
  repeat (first | refine F_mv zT0 rfl ?_ | refine F_nil zT1 ?_ | refine hx_seq ?_ | refine hx_region ?_)
  refine F_call (by (try simp only [List.map_cons, List.map_nil]); repeat (first | (apply eL1; · exact zT0) | rfl)) zT2 (ht_idx l n set f p hl hp) ?_
  rintro _ ⟨e, rfl, he, h⟩
  refine ⟨zT3, _, _, _, _, _, zT4, (by decide), (by simp only [upF, upS]; try rfl), ?_⟩
  by_cases h0 : 0 ≤ e
  · repeat (first | refine F_mv zT0 rfl ?_ | refine F_nil zT1 ?_ | refine F_geq (by rfl) (by rfl) (by first | exact leT (by omega) | exact leF (by omega) | rfl) ?_)
    refine hx_retF (by (try simp only [List.map_cons, List.map_nil]); repeat (first | (apply eL1; · exact zT0) | rfl)) zT5 zT7 ?_
    rw [h.1 h0]; rfl
  · have h1 : l.any p = false := by
      cases hb : l.any p with
      | false => rfl
      | true => exact absurd (h.2 hb) h0
    repeat (first | refine F_mv zT0 rfl ?_ | refine F_nil zT1 ?_ | refine F_geq (by rfl) (by rfl) (by first | exact leT (by omega) | exact leF (by omega) | rfl) ?_)
    refine hx_retF (by (try simp only [List.map_cons, List.map_nil]); repeat (first | (apply eL1; · exact zT0) | rfl)) zT5 zT7 ?_
    rw [h1]; rfl

set_option maxHeartbeats 4000000 in
theorem ht_idxR (g : List (List Int)) (n : Nat) (set : List Bool) (f : FuncId) (p : List Int → Bool) (hl : g.length ≤ 9223372036854775807) (hp : ∀ x ∈ g, HT Try.prog f [I x, .ptr [.sl n (HL.bools set)] 0] (fun r => r = .bool (p x))) :
    HT Try.prog 64 [Gs g, .fn f [.ptr [.sl n (HL.bools set)] 0]] (fun r => ∃ e : Int, r = .int .i64 e ∧ -1 ≤ e ∧ (0 ≤ e ↔ g.any p = true)) := by
  refine HT.of rfl fc64 (Nat.le_of_ble_eq_true rfl) ?_
  unfold c64
  simp only [Gs, argSlots, Nat.reduceAdd]
  repeat (first | refine F_mv zT0 rfl ?_ | refine F_nil zT1 ?_ | refine F_lenS (by rfl) ?_ | refine hx_seq ?_ | refine hx_region ?_ | refine hx_block ?_)
  refine hx_loopG [0, 1, 7, 8] (fun i : Nat => i ≤ g.length ∧ (g.take i).any p = false) (fun i => ⟨[(0, .sl g.length (rowsI g)), (1, .fn f [.ptr [.sl n (HL.bools set)] 0]), (7, .int .i64 g.length), (8, .int .i64 i)], [], 0⟩) (fun i => g.length - i) 0 ⟨by omega, rfl⟩ rfl ?_
  rintro i ⟨hi, hno⟩
  by_cases hil : i < g.length
  · obtain ⟨x, hx⟩ : ∃ x, g.getD i [] = x := ⟨_, rfl⟩
    have hst := any_take_succ g p [] hil
    rw [hx, hno, Bool.false_or] at hst
    have hpx := hp x (hx ▸ getD_memI g [] hil)
    simp only [I] at hpx
    repeat (first | refine F_mv zT0 rfl ?_ | refine F_iaS (by rfl) (by rfl) (by omega) zT1 ?_ | refine F_ldP (by rfl) (by (try simp only [go_sem]); first | omega | decide) (by (try simp (disch := omega) only [go_sem, hx]); try rfl) ?_ | refine F_nil zT1 ?_ | refine F_lss (by rfl) (by rfl) zT6 ?_ | refine hx_true (by rfl) ?_ | refine hx_seq ?_ | refine hx_region ?_ | refine hx_block ?_ | refine hx_skip ?_)
    refine F_callv (by rfl) (by (try simp only [List.map_cons, List.map_nil]); repeat (first | (apply eL1; · exact zT0) | rfl)) zT2 (hpx) ?_
    rintro _ rfl
    refine ⟨zT3, _, _, _, _, _, zT4, (by decide), (by simp only [upF, upS]; try rfl), ?_⟩
    cases hpx : p x with
    | true =>
      repeat (first | refine F_mv zT0 rfl ?_ | refine F_nil zT1 ?_ | refine hx_true (by rfl) ?_ | refine hx_seq ?_ | refine hx_region ?_)
      refine hx_retF (by (try simp only [List.map_cons, List.map_nil]); repeat (first | (apply eL1; · exact zT0) | rfl)) zT5 zT7 ?_
      exact ⟨i, rfl, by omega, by rw [any_of_take g p (hst.trans hpx)]; simp⟩
    | false =>
      repeat (first | refine F_mv zT0 rfl ?_ | refine F_nil zT1 ?_ | refine F_add (by rfl) (by rfl) zT11 ?_ | refine hx_false (by rfl) ?_ | refine hx_region ?_ | refine hx_b ?_ | refine hx_skip ?_)
      exact hx_lG [0, 1, 7, 8] (i + 1) ⟨hil, hst.trans hpx⟩ (by omega) rfl
  · obtain rfl : i = g.length := by omega
    rw [List.take_length] at hno
    repeat (first | refine F_mv zT0 rfl ?_ | refine F_nil zT1 ?_ | refine F_lss (by rfl) (by rfl) zT6 ?_ | refine hx_exitS (by rfl) ?_ | refine hx_false (by rfl) ?_ | refine hx_seq ?_ | refine hx_region ?_)
    refine hx_retF (by (try simp only [List.map_cons, List.map_nil]); repeat (first | (apply eL1; · exact zT0) | rfl)) zT5 zT7 ?_
    exact ⟨-1, rfl, by omega, by rw [hno]; simp⟩
theorem ht_anyR (g : List (List Int)) (n : Nat) (set : List Bool) (f : FuncId) (p : List Int → Bool) (hl : g.length ≤ 9223372036854775807) (hp : ∀ x ∈ g, HT Try.prog f [I x, .ptr [.sl n (HL.bools set)] 0] (fun r => r = .bool (p x))) :
    HT Try.prog 56 [Gs g, .fn f [.ptr [.sl n (HL.bools set)] 0]] (fun r => r = .bool (g.any p)) := by
  refine HT.of rfl fc56 (Nat.le_of_ble_eq_true rfl) ?_
  unfold c56
  simp only [Gs, argSlots, Nat.reduceAdd]
  repeat (first | refine F_mv zT0 rfl ?_ | refine F_nil zT1 ?_ | refine hx_seq ?_ | refine hx_region ?_)
  refine F_call (by (try simp only [List.map_cons, List.map_nil]); repeat (first | (apply eL1; · exact zT0) | rfl)) (by simp (disch := omega) only [thawL, Gs, HV.thaw, allIds, aget, nget, if_true, if_false, reduceIte, Nat.reduceEqDiff, stripL, HV.strip, win_intsE, win_boolsE, win_edgesE, Nat.mul_one, List.cons_append, List.nil_append, List.append_nil, I, Bl, T3, Es, List.getD_cons_zero, List.getD_cons_succ, HL.ints_strip, HL.bools_strip, trip_strip, edges_strip]; try rfl) (ht_idxR g n set f p hl hp) ?_
  rintro _ ⟨e, rfl, he, h⟩
  refine ⟨zT3, _, _, _, _, _, zT4, (by decide), (by simp only [upF, upS]; try rfl), ?_⟩
  by_cases h0 : 0 ≤ e
  · repeat (first | refine F_mv zT0 rfl ?_ | refine F_nil zT1 ?_ | refine F_geq (by rfl) (by rfl) (by first | exact leT (by omega) | exact leF (by omega) | rfl) ?_)
    refine hx_retF (by (try simp only [List.map_cons, List.map_nil]); repeat (first | (apply eL1; · exact zT0) | rfl)) zT5 zT7 ?_
    rw [h.1 h0]; rfl
  · have h1 : g.any p = false := by
      cases hb : g.any p with
      | false => rfl
      | true => exact absurd (h.2 hb) h0
    repeat (first | refine F_mv zT0 rfl ?_ | refine F_nil zT1 ?_ | refine F_geq (by rfl) (by rfl) (by first | exact leT (by omega) | exact leF (by omega) | rfl) ?_)
    refine hx_retF (by (try simp only [List.map_cons, List.map_nil]); repeat (first | (apply eL1; · exact zT0) | rfl)) zT5 zT7 ?_
    rw [h1]; rfl

/-- A number is none of a node. -/
def outB (n : Nat) (x : Int) : Bool := decide (x < 0) || decide ((n : Int) ≤ x)
def fitsB (g : List (List Int)) (set : List Bool) : Bool := decide (g.length = set.length) && !(g.any fun r => r.any (outB set.length))
theorem ht_fits11 (x : Int) (n : Nat) (set : List Bool) : HT Try.prog 58 [.int .i64 x, .ptr [.sl n (HL.bools set)] 0] (fun r => r = .bool (outB n x)) := by
  refine HT.of rfl fc58 (Nat.le_of_ble_eq_true rfl) ?_
  unfold c58
  simp only [argSlots, Nat.reduceAdd]
  unfold outB
  by_cases h0 : x < 0
  · repeat (first | refine F_mv zT0 rfl ?_ | refine F_no (by rfl) (by rfl) ?_ | refine F_nil zT1 ?_ | refine F_lss (by rfl) (by rfl) zT6 ?_ | refine F_pickT (by rfl) zT0 ?_ | refine hx_seq ?_ | refine hx_region ?_)
    refine hx_retF (by (try simp only [List.map_cons, List.map_nil]); repeat (first | (apply eL1; · exact zT0) | rfl)) zT5 zT7 ?_
    simp [tupOf, h0]
  · by_cases h1 : (n : Int) ≤ x
    · repeat (first | refine F_mv zT0 rfl ?_ | refine F_yes (by rfl) (by rfl) ?_ | refine F_ldP (by rfl) (by (try simp only [go_sem]); first | omega | decide) (by (try simp (disch := omega) only [go_sem]); try rfl) ?_ | refine F_nil zT1 ?_ | refine F_lss (by rfl) (by rfl) zT6 ?_ | refine F_pickF (by rfl) zT0 ?_ | refine F_lenS (by rfl) ?_ | refine hx_seq ?_ | refine hx_region ?_ | refine F_geq (by rfl) (by rfl) (by first | exact leT (by omega) | exact leF (by omega) | rfl) ?_)
      refine hx_retF (by (try simp only [List.map_cons, List.map_nil]); repeat (first | (apply eL1; · exact zT0) | rfl)) zT5 zT7 ?_
      simp [tupOf, h1]
    · repeat (first | refine F_mv zT0 rfl ?_ | refine F_yes (by rfl) (by rfl) ?_ | refine F_ldP (by rfl) (by (try simp only [go_sem]); first | omega | decide) (by (try simp (disch := omega) only [go_sem]); try rfl) ?_ | refine F_nil zT1 ?_ | refine F_lss (by rfl) (by rfl) zT6 ?_ | refine F_pickF (by rfl) zT0 ?_ | refine F_lenS (by rfl) ?_ | refine hx_seq ?_ | refine hx_region ?_ | refine F_geq (by rfl) (by rfl) (by first | exact leT (by omega) | exact leF (by omega) | rfl) ?_)
      refine hx_retF (by (try simp only [List.map_cons, List.map_nil]); repeat (first | (apply eL1; · exact zT0) | rfl)) zT5 zT7 ?_
      simp [tupOf, h0, h1]
theorem ht_fits1 (r : List Int) (n : Nat) (set : List Bool) (hl : r.length ≤ 9223372036854775807) : HT Try.prog 57 [I r, .ptr [.sl n (HL.bools set)] 0] (fun v => v = .bool (r.any (outB n))) := by
  refine HT.of rfl fc57 (Nat.le_of_ble_eq_true rfl) ?_
  unfold c57
  simp only [I, argSlots, Nat.reduceAdd]
  repeat (first | refine F_mv zT0 rfl ?_ | refine F_nil zT1 ?_ | refine hx_seq ?_ | refine hx_region ?_)
  refine F_mkfn (by (try simp only [List.map_cons, List.map_nil]); repeat (first | (apply eL1; · exact zT0) | rfl)) ?_
  skip
  refine F_call (by (try simp only [List.map_cons, List.map_nil]); repeat (first | (apply eL1; · exact zT0) | rfl)) zT2 (ht_any r n set _ (outB n) hl fun x _ => ht_fits11 x n set) ?_
  rintro _ rfl
  refine ⟨zT3, _, _, _, _, _, zT4, (by decide), (by simp only [upF, upS]; try rfl), ?_⟩
  repeat (first | refine F_mv zT0 rfl ?_ | refine F_nil zT1 ?_)
  refine hx_retF (by (try simp only [List.map_cons, List.map_nil]); repeat (first | (apply eL1; · exact zT0) | rfl)) zT5 zT7 ?_
  rfl
theorem ht_fits (g : List (List Int)) (set : List Bool) (h1 : g.length ≤ 9223372036854775807) (h2 : set.length ≤ 9223372036854775807) (h3 : ∀ i, (g.getD i []).length ≤ 9223372036854775807) :
    HT Try.prog 40 [Gs g, Bl set] (fun r => r = .bool (fitsB g set)) := by
  have h3' : ∀ x ∈ g, x.length ≤ 9223372036854775807 := fun x hx => by
    obtain ⟨k, hk, rfl⟩ := List.getElem_of_mem hx
    have := h3 k
    rwa [List.getD_eq_getElem?_getD, List.getElem?_eq_getElem hk, Option.getD_some] at this
  refine HT.of rfl fc40 (Nat.le_of_ble_eq_true rfl) ?_
  unfold c40
  simp only [Gs, Bl, argSlots, Nat.reduceAdd]
  unfold fitsB
  have hbs : stripL (HL.bools set) = HL.bools set := HL.bools_strip _
  by_cases he : g.length = set.length
  · repeat (first | refine F_mv zT0 rfl ?_ | refine F_yes (by rfl) (by rfl) ?_ | refine F_ldR (by rfl) (by first | exact eO rfl | exact eW rfl) (by (try simp only [go_sem]); try rfl) (by (try simp only [go_sem]); first | omega | decide) (by (try simp (disch := omega) only [go_sem]); try rfl) zT0 ?_ | refine F_nil zT1 ?_ | refine F_eql (by rfl) (by rfl) (by first | exact eqT (by omega) | exact eqF (by omega) | rfl) ?_ | refine F_lenS (by rfl) ?_ | refine hx_seq ?_ | refine hx_region ?_ | refine F_newv zT1 zT0 (by (try simp only [go_sem]); try rfl) zT10 (by rfl) ?_)
    refine F_mkfn (by (try simp only [List.map_cons, List.map_nil]); repeat (first | (apply eL1; · exact zT0) | rfl)) ?_
    repeat (first | refine F_yes (by rfl) (by rfl) ?_)
    refine F_call (by (try simp only [List.map_cons, List.map_nil]); repeat (first | (apply eL1; · exact zT0) | rfl)) (by simp (disch := omega) only [thawL, Gs, HV.thaw, allIds, aget, nget, if_true, if_false, reduceIte, Nat.reduceEqDiff, stripL, HV.strip, win_intsE, win_boolsE, win_edgesE, Nat.mul_one, List.cons_append, List.nil_append, List.append_nil, I, Bl, T3, Es, List.getD_cons_zero, List.getD_cons_succ, HL.ints_strip, HL.bools_strip, trip_strip, edges_strip]; try rfl) (ht_anyR g set.length set _ (fun r => r.any (outB set.length)) h1 fun x hx => ht_fits1 x set.length set (h3' x hx)) ?_
    rintro _ rfl
    refine ⟨zT3, _, _, _, _, _, zT4, (by decide), (by simp only [upF, upS]; try rfl), ?_⟩
    repeat (first | refine F_mv zT0 rfl ?_ | refine F_yes (by rfl) (by rfl) ?_ | refine F_nil zT1 ?_ | refine F_pickT (by rfl) zT0 ?_ | refine F_not (by rfl) (by (try simp only [go_sem, reduceIte]); try rfl) ?_)
    refine hx_retF (by (try simp only [List.map_cons, List.map_nil]); repeat (first | (apply eL1; · exact zT0) | rfl)) zT5 zT7 ?_
    simp [tupOf, he]
  · repeat (first | refine F_mv zT0 rfl ?_ | refine F_no (by rfl) (by rfl) ?_ | refine F_ldR (by rfl) (by first | exact eO rfl | exact eW rfl) (by (try simp only [go_sem]); try rfl) (by (try simp only [go_sem]); first | omega | decide) (by (try simp (disch := omega) only [go_sem]); try rfl) zT0 ?_ | refine F_nil zT1 ?_ | refine F_eql (by rfl) (by rfl) (by first | exact eqT (by omega) | exact eqF (by omega) | rfl) ?_ | refine F_pickF (by rfl) zT0 ?_ | refine F_lenS (by rfl) ?_ | refine hx_seq ?_ | refine hx_region ?_ | refine F_newv zT1 zT0 (by (try simp only [go_sem]); try rfl) zT10 (by rfl) ?_)
    refine hx_retF (by (try simp only [List.map_cons, List.map_nil]); repeat (first | (apply eL1; · exact zT0) | rfl)) zT5 zT7 ?_
    simp [tupOf, he]

end Go.Proofs.Ytkhbiknjkffpjaa
