/-
  OWN WORK. The value language and the rows of the small separation logic: what is proved of calls there is a contract here.
-/
import Derived.Test.YtjlidhijnohkbaaHl5
import Derived.Test.YtjlidhijnohkbaaCodes
set_option linter.unusedSimpArgs false
set_option linter.unusedVariables false
namespace Go.Proofs.Ytjlidhijnohkbaa
open Go.RowKit Go.HL

section
variable {F : Nat → Prop} {h : Hp} {R : HV → Value → Prop}

/-- A list of arguments, one after the other. -/
theorem of_cons {v r rvs fs} (o : OW F h R (v :: r) rvs fs) : ∃ rv rr f1 f2, rvs = rv :: rr ∧ fs = f1 ++ f2 ∧ OW F h R [v] [rv] f1 ∧ OW F h R r rr f2 := by
  cases rvs with
  | nil => exact absurd o.length (by simp)
  | cons rv rr => obtain ⟨f1, f2, e, o1, o2⟩ := o.split1; exact ⟨rv, rr, f1, f2, rfl, e, o1, o2⟩
theorem of_consE {v r rvs} (o : OW F h R (v :: r) rvs []) : ∃ rv rr, rvs = rv :: rr ∧ OW F h R [v] [rv] [] ∧ OW F h R r rr [] := by
  obtain ⟨rv, rr, f1, f2, e, e2, o1, o2⟩ := of_cons o
  obtain ⟨rfl, rfl⟩ : f1 = [] ∧ f2 = [] := by simpa using e2.symm
  exact ⟨rv, rr, e, o1, o2⟩
theorem of_nilE {rvs} (o : OW F h R [] rvs []) : rvs = [] := List.eq_nil_of_length_eq_zero o.length.symm
end

/-- A call, its arguments in their plain form. -/
theorem hx_callE {P : Program} {k : List HI} {Q : HE → St → Prop} {s : St} {all r : List HOper} {i : Nat} {d : Option Nat} {f : FuncId} {xs : List HX} {args : List HV} {K : HV → Prop} (ha : thawL allIds s.M (xs.map (ev s.sl)) = args) (hC : HT P f args K)
    (h : ∀ v, K v → (refFreeL (xs.map (ev s.sl)) || v.noRd) = true ∧ (unpack (s.nx + stride * i) v).2.2 ≤ s.nx + stride * (i + 1) ∧ hx P (.o (HT P) all r (i + 1) :: k) Q ((s.upd (unpack (s.nx + stride * i) v).2.1).put d (unpack (s.nx + stride * i) v).1)) :
    hx P (.o (HT P) all (⟨d, .call f xs, none⟩ :: r) i :: k) Q s := hx_call (ha ▸ hC) h

/-- Not stuck. -/
def okv : HV → Bool
  | .int .. => true | .bool _ => true | .str _ => true | .nils => true | .nilp => true | .nilf => true | .sl .. => true | .osl .. => true | .ptr .. => true | .optr _ => true | .agg _ => true | .tup _ => true | .fn .. => true | .ref .. => true | .pref .. => true | .dead => true

section
variable {P : Program} {k : List HI} {Q : HE → St → Prop} {C : CallSpec} {all r : List HOper} {i : Nat} {d : Option Nat} {sl sl' st st' : List (Nat × HV)} {nx nx' : Nat}
/-- One operation. -/
theorem hx_one {op : HOp HX} {v : HV} {us : List Upd} {side : Prop} (hnc : op.isCall = false) (h0 : topv (fun j => aget j st) (nx + stride * i) (op.map (ev sl)) = (v, us, side)) (_hg : okv v = true) (hs : side)
    (h1 : St.put (St.upd ⟨sl, st, nx⟩ us) d v = ⟨sl', st', nx⟩) (h : hx P (.o C all r (i + 1) :: k) Q ⟨sl', st', nx⟩) : hx P (.o C all (⟨d, op, none⟩ :: r) i :: k) Q ⟨sl, st, nx⟩ := by
  rw [hx_op hnc]
  have e : (fun j => aget j st) = St.M ⟨sl, st, nx⟩ := rfl
  rw [e] at h0
  simp only
  rw [h0]
  exact ⟨hs, by rw [h1]; exact h⟩
/-- Its guard is not met. -/
theorem hx_no {op : HOp HX} {j x : Nat} {want : Bool} (hd : (all[j]?).bind (·.dst) = some x) (hb : aget x sl = .bool (!want)) (h1 : St.put ⟨sl, st, nx⟩ d (.tup []) = ⟨sl', st', nx⟩) (h : hx P (.o C all r (i + 1) :: k) Q ⟨sl', st', nx⟩) : hx P (.o C all (⟨d, op, some (j, want)⟩ :: r) i :: k) Q ⟨sl, st, nx⟩ :=
  hx_gF hd hb (by rw [h1]; exact h)
theorem hx_nilE (hn : nx + stride * all.length = nx') (h : hx P k Q ⟨sl, st, nx'⟩) : hx P (.o C all [] i :: k) Q ⟨sl, st, nx⟩ := by
  rw [hx_o_nil]; simp only; rw [hn]; exact h
/-- A call; its arguments and what is kept of its result in their plain form. -/
theorem hx_callS {f : FuncId} {xs : List HX} {args : List HV} {K : HV → Prop} (ha : thawL allIds (fun j => aget j st) (xs.map (ev sl)) = args) (hC : HT P f args K)
    (h : ∀ v, K v → (refFreeL (xs.map (ev sl)) || v.noRd) = true ∧ (unpack (nx + stride * i) v).2.2 ≤ nx + stride * (i + 1) ∧ hx P (.o (HT P) all r (i + 1) :: k) Q (St.put (St.upd ⟨sl, st, nx⟩ (unpack (nx + stride * i) v).2.1) d (unpack (nx + stride * i) v).1)) :
    hx P (.o (HT P) all (⟨d, .call f xs, none⟩ :: r) i :: k) Q ⟨sl, st, nx⟩ := hx_callE ha hC h
theorem hx_got {v v' : HV} {us : List Upd} {n2 : Nat} {X : Prop} (hx0 : X = true) (hu : unpack (nx + stride * i) v = (v', us, n2)) (hn : n2 ≤ nx + stride * (i + 1)) (h1 : St.put (St.upd ⟨sl, st, nx⟩ us) d v' = ⟨sl', st', nx⟩) (h : hx P (.o C all r (i + 1) :: k) Q ⟨sl', st', nx⟩) :
    X ∧ (unpack (nx + stride * i) v).2.2 ≤ nx + stride * (i + 1) ∧ hx P (.o C all r (i + 1) :: k) Q (St.put (St.upd ⟨sl, st, nx⟩ (unpack (nx + stride * i) v).2.1) d (unpack (nx + stride * i) v).1) := by
  rw [hu]
  exact ⟨by simpa using hx0, hn, by simp only; rw [h1]; exact h⟩
end
theorem win_intsE (l : List Int) {n : Nat} (h : n = l.length) : win (HL.ints l) 0 n = HL.ints l := win_all _ (by rw [ints_len]; exact h)
theorem win_boolsE (l : List Bool) {n : Nat} (h : n = l.length) : win (HL.bools l) 0 n = HL.bools l := win_all _ (by rw [bools_len]; exact h)
theorem allFlat_cons (v : HV) (r : List HV) : allFlat (v :: r) = (flatV v && allFlat r) := rfl
theorem allFlat_nil : allFlat [] = true := rfl
theorem allCell_cons (v : HV) (r : List HV) : allCell (v :: r) = (cellV v && allCell r) := rfl
theorem allCell_nil : allCell [] = true := rfl
theorem mk_ints (n : Nat) : (List.replicate n [HV.int .i64 0]).flatten = HL.ints (List.replicate n 0) := by
  induction n with
  | zero => rfl
  | succ n ih => rw [List.replicate_succ, List.flatten_cons, ih]; rfl
theorem mk_bools (n : Nat) : (List.replicate n [HV.bool false]).flatten = HL.bools (List.replicate n false) := by
  induction n with
  | zero => rfl
  | succ n ih => rw [List.replicate_succ, List.flatten_cons, ih]; rfl
theorem win_nil (off m : Nat) : win [] off m = [] := by unfold win; split <;> simp
theorem win_cons (a : HV) (r : List HV) (off m : Nat) : win (a :: r) off m = if off = 0 ∧ m = (a :: r).length then a :: r else ((a :: r).drop off).take m := rfl

attribute [go_sem] HL.ints_get HL.bools_get List.getD_cons_zero List.getD_cons_succ win_nil win_intsE win_boolsE win_cons List.drop_zero List.drop_succ_cons List.take_zero List.take_succ_cons List.length_cons List.length_nil and_true true_and and_self and_false false_and if_true if_false Nat.mul_one Nat.zero_mul Nat.zero_add Nat.add_zero Nat.mul_zero HL.ints_len HL.bools_len List.length_set HL.ints_cell HL.bools_cell allCell_cons allCell_nil cellV HL.ints_flat HL.bools_flat allFlat_cons allFlat_nil flatV Bool.and_true Bool.and_self Int.toNat_natCast Int.sub_zero Int.toNat_zero HL.ints_snoc HL.bools_snoc HL.ints_app HL.bools_app List.nil_append List.append_nil List.cons_append setFrom HL.ints_set HL.bools_set List.set_cons_zero List.set_cons_succ nset nget withKids kidsOf cellsOf List.flatMap_cons List.flatMap_nil stride newsOf mk_ints mk_bools IntWalk.i64_in Bool.not_true Bool.not_false Bool.false_eq_true beq_self_eq_true beq_true beq_false Bool.true_beq Bool.false_beq Bool.not_not

end Go.Proofs.Ytjlidhijnohkbaa
