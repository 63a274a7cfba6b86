/-
  OWN WORK. The examples of package closure.
-/
import Derived.Test.YtkhbiknjkffpjaaClMax
import Derived.Test.YtkhbiknjkffpjaaClHul2
set_option linter.unusedSimpArgs false
set_option linter.unusedVariables false
namespace Go.Proofs.Ytkhbiknjkffpjaa
open Go.RowKit Go.SL Go.HL
set_option maxRecDepth 100000

theorem Weak.slot {s : St} (t : Nat) (v : HV) (h : ∀ (F : Nat → Prop) (h : Hp) (R : HV → Value → Prop) (rv : Value), OW F h R [aget t s.sl] [rv] [] → OW F h R [v] [rv] []) : Weak s ⟨(t, v) :: s.sl, s.st, s.nx⟩ := by
  intro E a w ⟨loc, fp, hr⟩
  refine ⟨loc, fp, ⟨hr.below, hr.base, hr.size, hr.tree, hr.gone, hr.new, hr.nodup, hr.apart, hr.fresh, fun t' => ?_, hr.defers⟩⟩
  show OW _ _ _ [aget t' (_ :: _)] _ _
  simp only [aget]
  by_cases e : t = t'
  · subst e
    rw [if_pos rfl]
    exact h _ _ _ _ (hr.slots t)
  · rw [if_neg e]; exact hr.slots t'
/-- A nil row reads as an empty one. -/
def denil : HV → HV
  | .nils => .sl 0 []
  | v => v
theorem own_denil {F : Nat → Prop} {h : Hp} {R : HV → Value → Prop} {vs : List HV} {rvs : List Value} {fs : List Nat} (o : OW F h R vs rvs fs) : OW F h R (vs.map denil) rvs fs := by
  induction o with
  | nil => exact .nil
  | @leaf R v rv r rr fs a b c d e f g _ ih =>
    have : denil v = v := by cases v <;> simp [flatV] at a <;> rfl
    rw [List.map_cons, this]; exact .leaf a b c d e f g ih
  | int _ ih => exact .int ih
  | bool _ ih => exact .bool ih
  | str _ ih => exact .str ih
  | nils _ ih => exact .sl0 ih
  | nilp _ ih => exact .nilp ih
  | nilf _ ih => exact .nilf ih
  | dead _ ih => exact .dead ih
  | sl0 _ ih => exact .sl0 ih
  | sl a b c d e _ _ ih => exact .sl a b c d e ih
  | osl0 _ ih => exact .osl0 ih
  | osl a b c d e f g _ _ ih => exact .osl a b c d e f g ih
  | ptr a b c d _ _ ih => exact .ptr a b c d ih
  | optr a b _ _ ih => exact .optr a b ih
  | agg a _ _ ih => exact .agg a ih
  | tup a _ _ ih => exact .tup a ih
  | fn a _ _ ih => exact .fn a ih
theorem own_denilS {F : Nat → Prop} {h : Hp} {R : HV → Value → Prop} {n : Nat} {cs : List HV} {rv : Value} (o : OW F h R [.sl n cs] [rv] []) : OW F h R [.sl n (cs.map denil)] [rv] [] := by
  rcases of_sl o with ⟨rfl, rfl, a, cap, rfl⟩ | h
  · exact .sl0 .nil
  · generalize hf : ([] : List Nat) = fs at o
    cases o with
    | leaf a => cases a
    | sl0 _ => subst hf; exact .sl0 .nil
    | sl a b c d e f => subst hf; exact .sl a b (by rw [List.length_map]; exact c) d (own_denil e) .nil

def w0L : List Int := [5, -3, -4]
def nd0L : List (List Nat) := [[1], [], [0]]
def w0V : HV := .sl 3 [.int .i64 5, .int .i64 (-3), .int .i64 (-4)]
def nd0V : HV := .sl 3 [.sl 1 [.int .i64 1], .sl 0 [], .sl 1 [.int .i64 0]]
theorem gr0 : Gr nd0L [false, false, false] := by
  refine ⟨by decide, rfl, fun i j hj => ?_, fun i => ?_⟩
  · match i with
    | 0 => simp [nd0L] at hj ⊢; omega
    | 1 => simp [nd0L] at hj
    | 2 => simp [nd0L] at hj ⊢; omega
    | i + 3 => simp [nd0L] at hj
  · match i with
    | 0 => simp [nd0L]
    | 1 => simp [nd0L]
    | 2 => simp [nd0L]
    | i + 3 => simp [nd0L]
theorem wok0 : WOK w0L := fun i => by
  match i with
  | 0 => simp [w0L]
  | 1 => simp [w0L]
  | 2 => simp [w0L]
  | i + 3 => simp [w0L]
theorem net0 : netE w0L nd0L = [⟨3, 0, 5⟩, ⟨1, 4, 3⟩, ⟨2, 4, 4⟩, ⟨0, 1, 1099511627776⟩, ⟨2, 0, 1099511627776⟩] := rfl
theorem max0 : MaxSet w0L nd0L [true, true, false] := by
  refine ⟨rfl, fun u hu j hj => ?_, fun X hX hc => ?_, fun X hX hc he u hu => ?_⟩
  · match u with
    | 0 => simp [nd0L] at hj; subst hj; rfl
    | 1 => simp [nd0L] at hj
    | 2 => simp at hu
    | u + 3 => simp at hu
  · match X, hX with
    | [a, b, c], _ =>
      have h0 := hc 0
      have h2 := hc 2
      simp [nd0L] at h0 h2
      revert h0 h2
      cases a <;> cases b <;> cases c <;> decide
  · match X, hX with
    | [a, b, c], _ =>
      have h0 := hc 0
      have h2 := hc 2
      simp [nd0L] at h0 h2
      revert h0 h2 he
      match u with
      | 0 => cases a <;> cases b <;> cases c <;> decide
      | 1 => cases a <;> cases b <;> cases c <;> decide
      | 2 => simp at hu
      | u + 3 => simp at hu
theorem lcmax : HT Try.prog 25 [w0V, nd0V] (fun r => ∃ fl : List Int, r = .tup [.osl 1 3 [.bool true, .bool true, .bool false], .int .i64 2, .osl 1 5 (HL.ints fl), .int .i64 0] ∧ fl.length = 5) := by
  have h : HT Try.prog 25 [w0V, nd0V] (CMaxV w0L nd0L) := ht_cmax w0L nd0L _ gr0 wok0 rfl
  refine h.mono ?_
  rintro r ⟨fl, set, value, rfl, hM, hF, hval⟩
  have hs := hM.unique max0
  rw [hs]
  exact ⟨fl, rfl, by have := hF.flow.len; rw [net0] at this; exact this⟩

def tblC : Tbl := [(28, c28, [6, 7], 53), (22, c22, [4, 5], 77), (13, c13, [4], 68), (50, c50, [10, 11], 100), (52, c52, [8], 89)]
theorem tblC_ok : tblOK Try.prog tblC := (tblOK.cons fc28 (tblOK.cons fc22 (tblOK.cons fc13 (tblOK.cons fc50 (tblOK.cons fc52 (tblOK.nil))))))
def es0V : List HV := [.int .i64 3, .int .i64 0, .int .i64 5, .int .i64 1, .int .i64 4, .int .i64 3, .int .i64 2, .int .i64 4, .int .i64 4, .int .i64 0, .int .i64 1, .int .i64 1099511627776, .int .i64 2, .int .i64 0, .int .i64 1099511627776]
theorem lcvalid : HT Try.prog 13 [w0V, nd0V] (fun r => r = .bool true) := evM_sound rfl (m := []) memoOK.nil tblC_ok 100 8 13 [w0V, nd0V] (.bool true) (by kernel_rfl)
theorem lcnet : HT Try.prog 22 [w0V, nd0V] (fun r => r = .tup [.int .i64 5, .osl 3 5 es0V]) := evM_sound rfl (m := [(13, [w0V, nd0V], .bool true)]) (memoOK.cons lcvalid memoOK.nil) tblC_ok 100 8 22 [w0V, nd0V] (.tup [.int .i64 5, .osl 3 5 es0V]) (by kernel_rfl)
theorem lcfv : HT Try.prog 50 [.int .i64 5, .sl 5 es0V, .int .i64 3, .int .i64 4, .sl 5 (HL.ints [3, 3, 0, 3, 0])] (fun r => r = .tup [.int .i64 3, .int .i64 0]) := evM_sound rfl (m := []) memoOK.nil tblC_ok 100 8 50 [.int .i64 5, .sl 5 es0V, .int .i64 3, .int .i64 4, .sl 5 (HL.ints [3, 3, 0, 3, 0])] (.tup [.int .i64 3, .int .i64 0]) (by kernel_rfl)
theorem lcfz : HT Try.prog 50 [.int .i64 5, .sl 5 es0V, .int .i64 3, .int .i64 4, .sl 5 (HL.ints [0, 0, 0, 0, 0])] (fun r => r = .tup [.int .i64 0, .int .i64 0]) := evM_sound rfl (m := []) memoOK.nil tblC_ok 100 8 50 [.int .i64 5, .sl 5 es0V, .int .i64 3, .int .i64 4, .sl 5 (HL.ints [0, 0, 0, 0, 0])] (.tup [.int .i64 0, .int .i64 0]) (by kernel_rfl)
theorem lcb1 : HT Try.prog 28 [w0V, nd0V, .sl 5 (HL.ints [3, 3, 0, 3, 0])] (fun r => r = .tup [.int .i64 2, .int .i64 0]) := evM_sound rfl (m := [(22, [w0V, nd0V], .tup [.int .i64 5, .osl 3 5 es0V]), (50, [.int .i64 5, .sl 5 es0V, .int .i64 3, .int .i64 4, .sl 5 (HL.ints [3, 3, 0, 3, 0])], .tup [.int .i64 3, .int .i64 0])]) (memoOK.cons lcnet (memoOK.cons lcfv memoOK.nil)) tblC_ok 100 8 28 [w0V, nd0V, .sl 5 (HL.ints [3, 3, 0, 3, 0])] (.tup [.int .i64 2, .int .i64 0]) (by kernel_rfl)
theorem lcb2 : HT Try.prog 28 [w0V, nd0V, .sl 5 (HL.ints [0, 0, 0, 0, 0])] (fun r => r = .tup [.int .i64 5, .int .i64 0]) := evM_sound rfl (m := [(22, [w0V, nd0V], .tup [.int .i64 5, .osl 3 5 es0V]), (50, [.int .i64 5, .sl 5 es0V, .int .i64 3, .int .i64 4, .sl 5 (HL.ints [0, 0, 0, 0, 0])], .tup [.int .i64 0, .int .i64 0])]) (memoOK.cons lcnet (memoOK.cons lcfz memoOK.nil)) tblC_ok 100 8 28 [w0V, nd0V, .sl 5 (HL.ints [0, 0, 0, 0, 0])] (.tup [.int .i64 5, .int .i64 0]) (by kernel_rfl)
theorem lchull : HT Try.prog 18 [nd0V, .sl 3 [.bool false, .bool false, .bool true]] (fun r => r = .osl 1 3 [.bool true, .bool true, .bool true]) := by
  have h : HT Try.prog 18 [nd0V, .sl 3 [.bool false, .bool false, .bool true]] _ := ht_hull (nd0L.map nl) [false, false, true] (by decide) (by decide) (fun i => by
    match i with
    | 0 => simp [nd0L, nl]
    | 1 => simp [nd0L, nl]
    | 2 => simp [nd0L, nl]
    | i + 3 => simp [nd0L])
  refine h.mono ?_
  rintro r ⟨out, rfl, ⟨hf, _⟩ | ⟨_, hH⟩⟩
  · exact absurd hf (by decide)
  · have hl := hH.len
    match out, hl with
    | [a, b, c], _ =>
      have h2 := hH.sup 2 rfl
      have h0 := hH.closed 2 h2 0 (by decide)
      have h1 := hH.closed 0 h0 1 (by decide)
      simp at h0 h1 h2
      subst h0 h1 h2
      rfl

theorem lcsame : HT Try.prog 17 [.sl 3 [.bool true, .bool true, .bool true], .sl 3 [.bool true, .bool true, .bool true]] (fun r => r = .bool true) := ht_same [true, true, true] [true, true, true] (by decide) (by decide)
theorem lcrows : ∀ i, ((nd0L.map nl).getD i []).length ≤ 9223372036854775807 := fun i => by
  match i with
  | 0 => simp [nd0L, nl]
  | 1 => simp [nd0L, nl]
  | 2 => simp [nd0L, nl]
  | i + 3 => simp [nd0L]
theorem lcclosed : HT Try.prog 15 [nd0V, .sl 3 [.bool true, .bool true, .bool false]] (fun r => r = .bool true) := ht_closed (nd0L.map nl) [true, true, false] (by decide) (by decide) lcrows
theorem lcopen : HT Try.prog 15 [nd0V, .sl 3 [.bool true, .bool false, .bool false]] (fun r => r = .bool false) := ht_closed (nd0L.map nl) [true, false, false] (by decide) (by decide) lcrows

set_option maxHeartbeats 8000000 in
theorem ht_lives28 : HT Try.prog 21 [] (fun r => r = .bool true) := by
  refine HT.of rfl fc21 (Nat.le_of_ble_eq_true rfl) ?_
  unfold c21
  simp only [argSlots, Nat.reduceAdd]
  repeat (first | refine F_mv zT0 rfl ?_ | refine F_nil zT1 ?_ | refine hx_seq ?_ | refine hx_region ?_)
  repeat (first | refine F_mv zT0 rfl ?_ | refine F_nil zT1 ?_ | refine F_bsl zT1 (by (try simp only [List.map_cons, List.map_nil]); repeat (first | (apply eL1; · exact zT0) | rfl)) (by (try simp only [go_sem]); try rfl) zT10 (by rfl) (by rfl) ?_)
  refine hx_seq ?_
  refine hx_region ?_
  repeat (first | refine F_mv zT0 rfl ?_ | refine F_nil zT1 ?_ | refine F_bsl zT1 (by (try simp only [List.map_cons, List.map_nil]); repeat (first | (apply eL1; · exact zT0) | rfl)) (by (try simp only [go_sem]); try rfl) zT10 (by rfl) (by rfl) ?_ | refine F_bslG zT1 (by (try simp only [List.map_cons, List.map_nil]); repeat (first | (apply eL1; · exact zT0) | rfl)) (by (try simp only [go_sem]); try rfl) (by simp only [takeL, takeC, aget, Lk.upd, if_true, if_false, reduceIte, Nat.reduceEqDiff, List.append_nil, List.nil_append, List.cons_append]; try rfl) (by simp) (by rfl) (by rfl) (by rfl) ?_)
  have hmx := lcmax
  have hnt := lcnet
  have hb1 := lcb1
  have hb2 := lcb2
  have hhl := lchull
  have hvd := lcvalid
  unfold w0V nd0V at hmx hnt hb1 hb2 hvd
  have hsm := lcsame
  have hcl := lcclosed
  have hop := lcopen
  unfold nd0V at hhl hcl hop
  unfold es0V at hnt
  refine hx_dropN [1, 2] (⟨[(1, .ref 0 [] 1 0 3), (2, .ref 1 [] 1 0 3)], [(0, .osl 1 3 [.int .i64 5, .int .i64 (-3), .int .i64 (-4)]), (1, .osl 1 3 [.osl 1 1 [.int .i64 1], .nils, .osl 1 1 [.int .i64 0]])], 2⟩ : St) rfl ?_
  refine hx_freezeN 0 [1, 2] (⟨[(1, .sl 3 [.int .i64 5, .int .i64 (-3), .int .i64 (-4)]), (2, .ref 0 [] 1 0 3)], [(0, .osl 1 3 [.osl 1 1 [.int .i64 1], .nils, .osl 1 1 [.int .i64 0]])], 1⟩ : St) rfl ?_
  refine hx_freezeN 0 [1, 2] (⟨[(1, .sl 3 [.int .i64 5, .int .i64 (-3), .int .i64 (-4)]), (2, .sl 3 [.sl 1 [.int .i64 1], .nils, .sl 1 [.int .i64 0]])], [], 0⟩ : St) rfl ?_
  refine hx_weak (Weak.slot 2 (.sl 3 [.sl 1 [.int .i64 1], .sl 0 [], .sl 1 [.int .i64 0]]) (fun F h R rv o => own_denilS o)) ?_
  refine hx_dropN [1, 2] (⟨[(1, .sl 3 [.int .i64 5, .int .i64 (-3), .int .i64 (-4)]), (2, .sl 3 [.sl 1 [.int .i64 1], .sl 0 [], .sl 1 [.int .i64 0]])], [], 0⟩ : St) rfl ?_
  repeat (first | refine F_mv zT0 rfl ?_ | refine hx_seq ?_ | refine hx_region ?_)
  refine F_call (by (try simp only [List.map_cons, List.map_nil]); repeat (first | (apply eL1; · exact zT0) | rfl)) zT2 (hmx) ?_
  rintro _ ⟨fl, rfl, hfl⟩
  refine ⟨zT3, _, _, _, _, _, zT4, (by decide), (by simp only [upF, upS]; try rfl), ?_⟩
  repeat (first | refine F_mv zT0 rfl ?_ | refine F_nil zT1 ?_ | refine F_ext (by rfl) (by (try simp only [go_sem]); first | omega | decide) zT0 ?_ | refine hx_seq ?_ | refine hx_region ?_)
  refine F_call (by (try simp only [List.map_cons, List.map_nil]); repeat (first | (apply eL1; · exact zT0) | rfl)) zT2 (hnt) ?_
  rintro _ rfl
  refine ⟨zT3, _, _, _, _, _, zT4, (by decide), (by simp only [upF, upS]; try rfl), ?_⟩
  repeat (first | refine F_mv zT0 rfl ?_ | refine F_nil zT1 ?_ | refine F_ext (by rfl) (by (try simp only [go_sem]); first | omega | decide) zT0 ?_ | refine hx_seq ?_ | refine hx_region ?_ | refine F_bsl zT1 (by (try simp only [List.map_cons, List.map_nil]); repeat (first | (apply eL1; · exact zT0) | rfl)) (by (try simp only [go_sem]); try rfl) zT10 (by rfl) (by rfl) ?_)
  refine F_call (by (try simp only [List.map_cons, List.map_nil]); repeat (first | (apply eL1; · exact zT0) | rfl)) zT2 (hb1) ?_
  rintro _ rfl
  refine ⟨zT3, _, _, _, _, _, zT4, (by decide), (by simp only [upF, upS]; try rfl), ?_⟩
  repeat (first | refine F_mv zT0 rfl ?_ | refine F_nil zT1 ?_ | refine F_ext (by rfl) (by (try simp only [go_sem]); first | omega | decide) zT0 ?_ | refine hx_seq ?_ | refine hx_region ?_ | refine F_mksl zT1 (by rfl) (by omega) (by (try simp only [go_sem]); try rfl) (by (try simp only [go_sem]); try rfl) ?_)
  refine F_call (by (try simp only [List.map_cons, List.map_nil]); repeat (first | (apply eL1; · exact zT0) | rfl)) zT2 (hb2) ?_
  rintro _ rfl
  refine ⟨zT3, _, _, _, _, _, zT4, (by decide), (by simp only [upF, upS]; try rfl), ?_⟩
  repeat (first | refine F_mv zT0 rfl ?_ | refine F_nil zT1 ?_ | refine F_ext (by rfl) (by (try simp only [go_sem]); first | omega | decide) zT0 ?_ | refine hx_seq ?_ | refine hx_region ?_ | refine F_bsl zT1 (by (try simp only [List.map_cons, List.map_nil]); repeat (first | (apply eL1; · exact zT0) | rfl)) (by (try simp only [go_sem]); try rfl) zT10 (by rfl) (by rfl) ?_)
  refine F_call (by (try simp only [List.map_cons, List.map_nil]); repeat (first | (apply eL1; · exact zT0) | rfl)) zT2 (hhl) ?_
  rintro _ rfl
  refine ⟨zT3, _, _, _, _, _, zT4, (by decide), (by simp only [upF, upS]; try rfl), ?_⟩
  repeat (first | refine F_mv zT0 rfl ?_ | refine F_yes (by rfl) (by rfl) ?_ | refine F_iaR (by rfl) (by rfl) (by omega) zT1 ?_ | refine F_ldR (by rfl) (by first | exact eO rfl | exact eW rfl) (by (try simp only [go_sem]); try rfl) (by (try simp only [go_sem]); first | omega | decide) (by (try simp (disch := omega) only [go_sem]); try rfl) zT0 ?_ | refine F_nil zT1 ?_ | refine F_neq (by rfl) (by rfl) (by first | exact neF (by omega) | exact neT (by omega) | rfl) ?_ | refine F_pickT (by rfl) zT0 ?_ | refine F_pickF (by rfl) zT0 ?_ | refine F_lenR (by rfl) ?_ | refine hx_false (by rfl) ?_ | refine hx_seq ?_ | refine hx_region ?_ | refine hx_skip ?_ | refine F_aeq (by rfl) (by rfl) (by first | exact ⟨rfl, rfl, rfl, rfl⟩ | decide) (by (try simp (disch := omega) only [aggB, go_sem, reduceIte]); try rfl) ?_ | refine F_notF (by rfl) ?_ | refine F_ldRa (by rfl) (by first | exact eO rfl | exact eW rfl) (by (try simp only [go_sem]); try rfl) (by (try simp only [go_sem]); first | omega | decide) (by decide) (by (try simp (disch := omega) only [go_sem, reduceIte, Nat.reduceEqDiff, Nat.reduceAdd, Nat.reduceMul]); try rfl) zT10 ?_ | refine F_bsl zT1 (by (try simp only [List.map_cons, List.map_nil]); repeat (first | (apply eL1; · exact zT0) | rfl)) (by (try simp only [go_sem]); try rfl) zT10 (by rfl) (by rfl) ?_ | refine F_bld (by (try simp only [List.map_cons, List.map_nil]); repeat (first | (apply eP1; · exact zT0) | rfl)) (by simp only [fillAt, setFrom, cellsOf, List.set_cons_zero, List.set_cons_succ]; try rfl) (by simp [notDead]) ?_)
  refine F_call (by (try simp only [List.map_cons, List.map_nil]); repeat (first | (apply eL1; · exact zT0) | rfl)) zT2 (hsm) ?_
  rintro _ rfl
  refine ⟨zT3, _, _, _, _, _, zT4, (by decide), (by simp only [upF, upS]; try rfl), ?_⟩
  repeat (first | refine F_mv zT0 rfl ?_ | refine F_yes (by rfl) (by rfl) ?_ | refine F_pickT (by rfl) zT0 ?_)
  refine F_call (by (try simp only [List.map_cons, List.map_nil]); repeat (first | (apply eL1; · exact zT0) | rfl)) zT2 (hvd) ?_
  rintro _ rfl
  refine ⟨zT3, _, _, _, _, _, zT4, (by decide), (by simp only [upF, upS]; try rfl), ?_⟩
  repeat (first | refine F_mv zT0 rfl ?_ | refine F_yes (by rfl) (by rfl) ?_ | refine F_pickT (by rfl) zT0 ?_)
  refine F_call (by (try simp only [List.map_cons, List.map_nil]); repeat (first | (apply eL1; · exact zT0) | rfl)) zT2 (hcl) ?_
  rintro _ rfl
  refine ⟨zT3, _, _, _, _, _, zT4, (by decide), (by simp only [upF, upS]; try rfl), ?_⟩
  repeat (first | refine F_mv zT0 rfl ?_ | refine F_yes (by rfl) (by rfl) ?_ | refine F_pickT (by rfl) zT0 ?_ | refine F_bsl zT1 (by (try simp only [List.map_cons, List.map_nil]); repeat (first | (apply eL1; · exact zT0) | rfl)) (by (try simp only [go_sem]); try rfl) zT10 (by rfl) (by rfl) ?_)
  refine F_call (by (try simp only [List.map_cons, List.map_nil]); repeat (first | (apply eL1; · exact zT0) | rfl)) zT2 (hop) ?_
  rintro _ rfl
  refine ⟨zT3, _, _, _, _, _, zT4, (by decide), (by simp only [upF, upS]; try rfl), ?_⟩
  repeat (first | refine F_mv zT0 rfl ?_ | refine F_yes (by rfl) (by rfl) ?_ | refine F_nil zT1 ?_ | refine F_pickT (by rfl) zT0 ?_ | refine F_notF (by rfl) ?_)
  refine hx_retF (by (try simp only [List.map_cons, List.map_nil]); repeat (first | (apply eL1; · exact zT0) | rfl)) zT5 zT7 ?_
  rfl

end Go.Proofs.Ytkhbiknjkffpjaa
