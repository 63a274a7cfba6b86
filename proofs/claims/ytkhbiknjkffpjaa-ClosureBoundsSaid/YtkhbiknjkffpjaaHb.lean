/-
  OWN WORK. The value language and the rows of the small separation logic: what is proved of calls there is a contract here.
-/
import Derived.Test.YtkhbiknjkffpjaaSlMore
import Derived.Test.YtkhbiknjkffpjaaNet
import Derived.Test.YtkhbiknjkffpjaaHl5
import Derived.Test.YtkhbiknjkffpjaaCodes
set_option linter.unusedSimpArgs false
set_option linter.unusedVariables false
namespace Go.Proofs.Ytkhbiknjkffpjaa
open Go.RowKit Go.SL Go.HL

section
variable {F : Nat → Prop} {h : Hp} {R : HV → Value → Prop}

theorem ints_own (l : List Int) : OW F h R (HL.ints l) (ints l) [] := by
  induction l with
  | nil => exact .nil
  | cons x r ih => exact .int ih
theorem bools_own (l : List Bool) : OW F h R (HL.bools l) (bools l) [] := by
  induction l with
  | nil => exact .nil
  | cons x r ih => exact .bool ih
theorem of_ints {l : List Int} {rvs fs} (o : OW F h R (HL.ints l) rvs fs) : rvs = ints l := by
  induction l generalizing rvs fs with
  | nil => have := o.length; exact List.eq_nil_of_length_eq_zero (by simpa [HL.ints] using this.symm)
  | cons x r ih =>
    cases o with
    | leaf h1 => cases h1
    | int t => rw [ih t]; rfl
theorem of_bools {l : List Bool} {rvs fs} (o : OW F h R (HL.bools l) rvs fs) : rvs = bools l := by
  induction l generalizing rvs fs with
  | nil => have := o.length; exact List.eq_nil_of_length_eq_zero (by simpa [HL.bools] using this.symm)
  | cons x r ih =>
    cases o with
    | leaf h1 => cases h1
    | bool t => rw [ih t]; rfl

/-- A list of arguments, one after the other. -/
theorem of_cons {v r rvs fs} (o : OW F h R (v :: r) rvs fs) : ∃ rv rr f1 f2, rvs = rv :: rr ∧ fs = f1 ++ f2 ∧ OW F h R [v] [rv] f1 ∧ OW F h R r rr f2 := by
  cases rvs with
  | nil => exact absurd o.length (by simp)
  | cons rv rr => obtain ⟨f1, f2, e, o1, o2⟩ := o.split1; exact ⟨rv, rr, f1, f2, rfl, e, o1, o2⟩
theorem of_consE {v r rvs} (o : OW F h R (v :: r) rvs []) : ∃ rv rr, rvs = rv :: rr ∧ OW F h R [v] [rv] [] ∧ OW F h R r rr [] := by
  obtain ⟨rv, rr, f1, f2, e, e2, o1, o2⟩ := of_cons o
  obtain ⟨rfl, rfl⟩ : f1 = [] ∧ f2 = [] := by simpa using e2.symm
  exact ⟨rv, rr, e, o1, o2⟩
theorem of_nilE {rvs} (o : OW F h R [] rvs []) : rvs = [] := List.eq_nil_of_length_eq_zero o.length.symm
end

/-- A slice that may be read. -/
theorem rd_of_sl {F : Nat → Prop} {w : World} {n : Nat} {cs : List HV} {rv : Value} (hF : ∀ b, F b → b < w.heap.size) (o : OW F w.heap noR [.sl n cs] [rv] []) : ∃ a cap vs, rv = .slice a n cap ∧ rd w a vs ∧ OW F w.heap noR cs vs [] := by
  rcases of_sl o with ⟨rfl, rfl, a, cap, rfl⟩ | ⟨g, off, cap, cur, e, fr, rfl, hg, hb, _, ho⟩
  · exact ⟨a, cap, [], rfl, .inl rfl, .nil⟩
  · refine ⟨_, cap, _, rfl, .inr ⟨g, off, rfl, hF g hg, fun k u hu => ?_⟩, ho⟩
    simp only [World.cell?, hb]
    rw [List.getElem?_take] at hu
    split at hu
    · rw [List.getElem?_drop] at hu
      simpa using hu
    · cases hu
theorem rd_ints {F : Nat → Prop} {w : World} {l : List Int} {rv : Value} (hF : ∀ b, F b → b < w.heap.size) (o : OW F w.heap noR [I l] [rv] []) : ∃ a cap, rv = .slice a l.length cap ∧ rd w a (ints l) := by
  obtain ⟨a, cap, vs, rfl, h1, h2⟩ := rd_of_sl hF o
  rw [of_ints h2] at h1
  exact ⟨a, cap, rfl, h1⟩
theorem rd_bools {F : Nat → Prop} {w : World} {l : List Bool} {rv : Value} (hF : ∀ b, F b → b < w.heap.size) (o : OW F w.heap noR [Bl l] [rv] []) : ∃ a cap, rv = .slice a l.length cap ∧ rd w a (bools l) := by
  obtain ⟨a, cap, vs, rfl, h1, h2⟩ := rd_of_sl hF o
  rw [of_bools h2] at h1
  exact ⟨a, cap, rfl, h1⟩

section
variable {P : Program} {k : List HI} {Q : HE → St → Prop} {C : CallSpec} {all r : List HOper} {i : Nat} {d : Option Nat} {sl sl' st st' : List (Nat × HV)} {nx nx' : Nat}
end
theorem win_intsE (l : List Int) {n : Nat} (h : n = l.length) : win (HL.ints l) 0 n = HL.ints l := win_all _ (by rw [ints_len]; exact h)
theorem win_boolsE (l : List Bool) {n : Nat} (h : n = l.length) : win (HL.bools l) 0 n = HL.bools l := win_all _ (by rw [bools_len]; exact h)
theorem allFlat_cons (v : HV) (r : List HV) : allFlat (v :: r) = (flatV v && allFlat r) := rfl
theorem allFlat_nil : allFlat [] = true := rfl
theorem allCell_cons (v : HV) (r : List HV) : allCell (v :: r) = (cellV v && allCell r) := rfl
theorem allCell_nil : allCell [] = true := rfl
theorem mk_ints (n : Nat) : (List.replicate n [HV.int .i64 0]).flatten = HL.ints (List.replicate n 0) := by
  induction n with
  | zero => rfl
  | succ n ih => rw [List.replicate_succ, List.flatten_cons, ih]; rfl
theorem mk_bools (n : Nat) : (List.replicate n [HV.bool false]).flatten = HL.bools (List.replicate n false) := by
  induction n with
  | zero => rfl
  | succ n ih => rw [List.replicate_succ, List.flatten_cons, ih]; rfl
theorem win_nil (off m : Nat) : win [] off m = [] := by unfold win; split <;> simp
theorem win_cons (a : HV) (r : List HV) (off m : Nat) : win (a :: r) off m = if off = 0 ∧ m = (a :: r).length then a :: r else ((a :: r).drop off).take m := rfl

/-- The edges of a network. -/
def edges (l : List Edge) : List HV := l.flatMap fun e => [.int .i64 e.f, .int .i64 e.t, .int .i64 e.c]
def Es (l : List Edge) : HV := .sl l.length (edges l)
section
variable {F : Nat → Prop} {h : Hp} {R : HV → Value → Prop}
theorem of_edges {l : List Edge} {rvs fs} (o : OW F h R (edges l) rvs fs) : rvs = ecells l := by
  induction l generalizing rvs fs with
  | nil => have := o.length; exact List.eq_nil_of_length_eq_zero (by simpa [edges] using this.symm)
  | cons x r ih =>
    cases o with
    | leaf h1 => cases h1
    | int t =>
      cases t with
      | leaf h1 => cases h1
      | int t =>
        cases t with
        | leaf h1 => cases h1
        | int t => rw [ih t]; rfl
theorem rd_edges {F : Nat → Prop} {w : World} {l : List Edge} {rv : Value} (hF : ∀ b, F b → b < w.heap.size) (o : OW F w.heap noR [Es l] [rv] []) : ∃ a cap, rv = .slice a l.length cap ∧ rd w a (ecells l) := by
  obtain ⟨a, cap, vs, rfl, h1, h2⟩ := rd_of_sl hF o
  rw [of_edges h2] at h1
  exact ⟨a, cap, rfl, h1⟩
end

/-- What a call gives back: the tree r, in blocks of its own. -/
def Gives (F : Nat → Prop) (w : World) (K : HV → Prop) (e : Ending) (w' : World) : Prop :=
  ∃ rv res fs, e = .returned rv ∧ K res ∧ OW (fun b => F b ∨ (w.heap.size ≤ b ∧ b < w'.heap.size ∧ b ∉ fs)) w'.heap noR [res] [rv] fs ∧ fs.Nodup ∧ (∀ b ∈ fs, w.heap.size ≤ b) ∧ Below w.heap.size w w'

theorem row_own {w w' : World} {e : TypeId} {sz off n : Nat} {v : Value} {xs : List Value} {cs : List HV} {i : Nat} {L : List Asn} (hS : Sat w.heap.size w w' L) (hi : L[i]? = some (row e sz off v n xs))
    (hc : ∀ (F : Nat → Prop) (h : Hp), OW F h noR cs xs []) : ∃ fs, (∀ F, OW F w'.heap noR [.osl sz n cs] [v] fs) ∧ fs.Nodup ∧ ∀ b ∈ fs, w.heap.size ≤ b := by
  obtain ⟨c, hc'⟩ := hS.own
  have hr := hc' i _ hi
  obtain ⟨hl, h⟩ := hr
  rcases h with ⟨a, rfl, rfl⟩ | ⟨g, cap, cur, rfl, hg, h1, h2, h3, h4⟩
  · have hx : xs = [] := List.eq_nil_of_length_eq_zero (by simpa using hl)
    have hcs : cs = [] := List.eq_nil_of_length_eq_zero (by have := (hc (fun _ => True) #[]).length; rw [hx] at this; simpa using this)
    subst hcs
    exact ⟨[], fun F => .osl0 .nil, by simp, by simp⟩
  · obtain ⟨_, hB, hh⟩ := part_some hg
    have hcl : cs.length = n * sz := (hc (fun _ => True) #[]).length.trans hl
    refine ⟨[g], fun F => ?_, by simp, by simpa using hB⟩
    have := OW.osl (F := F) (h := w'.heap) (R := noR) (n := n) (sz := sz) (cs := cs) (rvs := xs) (r := []) (rr := []) hh hcl (by rw [hcl]; exact h4.symm) h3.symm h1 h2 (hc _ _) .nil
    simpa using this

theorem edges_trip (l : List Edge) : edges l = trip (l.map fun e => (e.f, e.t, e.c)) := by simp [edges, trip, List.flatMap_map]
theorem edges_len (l : List Edge) : (edges l).length = l.length * 3 := by rw [edges_trip, trip_len]; simp
theorem edges_strip (l : List Edge) : stripL (edges l) = edges l := by rw [edges_trip, trip_strip]
theorem edges_noRd (l : List Edge) : noRdL (edges l) = true := by rw [edges_trip, trip_noRd]
theorem edges_flat (l : List Edge) : allFlat (edges l) = true := by rw [edges_trip, trip_flat]
theorem edges_cell (l : List Edge) : allCell (edges l) = true := by rw [edges_trip, trip_cell]
theorem win_edgesE (l : List Edge) {n : Nat} (h : n = l.length * 3) : win (edges l) 0 n = edges l := win_all _ (by rw [edges_len]; exact h)
theorem edges_app (l m : List Edge) : edges l ++ edges m = edges (l ++ m) := by simp [edges]
theorem edges_snoc (l : List Edge) (x y z : Int) : edges l ++ [.int .i64 x, .int .i64 y, .int .i64 z] = edges (l ++ [⟨x, y, z⟩]) := by simp [edges]
theorem edges_win (l : List Edge) {i : Nat} (h : i < l.length) : win (edges l) (i * 3) 3 = [.int .i64 (l.getD i default).f, .int .i64 (l.getD i default).t, .int .i64 (l.getD i default).c] := by
  rw [edges_trip, trip_win _ (by simpa using h)]
  simp [h]
theorem edges_get (l : List Edge) {i : Nat} (h : i < l.length) : (edges l).getD (i * 3) .dead = .int .i64 (l.getD i default).f ∧ (edges l).getD (i * 3 + 1) .dead = .int .i64 (l.getD i default).t ∧ (edges l).getD (i * 3 + 2) .dead = .int .i64 (l.getD i default).c := by
  induction l generalizing i with
  | nil => simp at h
  | cons e r ih =>
    cases i with
    | zero => exact ⟨rfl, rfl, rfl⟩
    | succ i =>
      obtain ⟨h1, h2, h3⟩ := ih (i := i) (by simpa using h)
      have e0 : (i + 1) * 3 = i * 3 + 1 + 1 + 1 := by omega
      have e1 : (i + 1) * 3 + 1 = (i * 3 + 1) + 1 + 1 + 1 := by omega
      have e2 : (i + 1) * 3 + 2 = (i * 3 + 2) + 1 + 1 + 1 := by omega
      have ee : edges (e :: r) = .int .i64 e.f :: .int .i64 e.t :: .int .i64 e.c :: edges r := rfl
      rw [e2, e1, e0, ee]
      simp only [List.getD_cons_succ]
      exact ⟨h1, h2, h3⟩
theorem edges_setF (l : List Edge) (i : Nat) (x : Int) : (edges l).set (i * 3) (.int .i64 x) = edges (l.set i ⟨x, (l.getD i default).t, (l.getD i default).c⟩) := by
  induction l generalizing i with
  | nil => rfl
  | cons e r ih =>
    cases i with
    | zero => rfl
    | succ i =>
      have e0 : (i + 1) * 3 = i * 3 + 1 + 1 + 1 := by omega
      have ee : ∀ q : List Edge, edges (e :: q) = .int .i64 e.f :: .int .i64 e.t :: .int .i64 e.c :: edges q := fun _ => rfl
      rw [e0, ee]
      simp only [List.set_cons_succ, List.getD_cons_succ, ih, ee]
theorem edges_setF0 (l : List Edge) (i : Nat) (x : Int) : (edges l).set (i * 3 + 0) (.int .i64 x) = edges (l.set i ⟨x, (l.getD i default).t, (l.getD i default).c⟩) := edges_setF l i x
theorem edges_setT (l : List Edge) (i : Nat) (x : Int) : (edges l).set (i * 3 + 1) (.int .i64 x) = edges (l.set i ⟨(l.getD i default).f, x, (l.getD i default).c⟩) := by
  induction l generalizing i with
  | nil => rfl
  | cons e r ih =>
    cases i with
    | zero => rfl
    | succ i =>
      have e0 : (i + 1) * 3 + 1 = (i * 3 + 1) + 1 + 1 + 1 := by omega
      have ee : ∀ q : List Edge, edges (e :: q) = .int .i64 e.f :: .int .i64 e.t :: .int .i64 e.c :: edges q := fun _ => rfl
      rw [e0, ee]
      simp only [List.set_cons_succ, List.getD_cons_succ, ih, ee]
theorem edges_setC (l : List Edge) (i : Nat) (x : Int) : (edges l).set (i * 3 + 2) (.int .i64 x) = edges (l.set i ⟨(l.getD i default).f, (l.getD i default).t, x⟩) := by
  induction l generalizing i with
  | nil => rfl
  | cons e r ih =>
    cases i with
    | zero => rfl
    | succ i =>
      have e0 : (i + 1) * 3 + 2 = (i * 3 + 2) + 1 + 1 + 1 := by omega
      have ee : ∀ q : List Edge, edges (e :: q) = .int .i64 e.f :: .int .i64 e.t :: .int .i64 e.c :: edges q := fun _ => rfl
      rw [e0, ee]
      simp only [List.set_cons_succ, List.getD_cons_succ, ih, ee]
theorem edges_getF (l : List Edge) {i : Nat} (h : i < l.length) : (edges l).getD (i * 3) .dead = .int .i64 (l.getD i default).f := (edges_get l h).1
theorem edges_getF0 (l : List Edge) {i : Nat} (h : i < l.length) : (edges l).getD (i * 3 + 0) .dead = .int .i64 (l.getD i default).f := edges_getF l h
theorem edges_getT (l : List Edge) {i : Nat} (h : i < l.length) : (edges l).getD (i * 3 + 1) .dead = .int .i64 (l.getD i default).t := (edges_get l h).2.1
theorem edges_getC (l : List Edge) {i : Nat} (h : i < l.length) : (edges l).getD (i * 3 + 2) .dead = .int .i64 (l.getD i default).c := (edges_get l h).2.2

attribute [go_sem] HL.ints_get HL.bools_get edges_getF edges_getF0 edges_getT edges_getC List.getD_cons_zero List.getD_cons_succ edges_win win_nil win_intsE win_boolsE win_edgesE win_cons List.drop_zero List.drop_succ_cons List.take_zero List.take_succ_cons List.length_cons List.length_nil and_true true_and and_self and_false false_and if_true if_false Nat.mul_one Nat.zero_mul Nat.zero_add Nat.add_zero Nat.mul_zero HL.ints_len HL.bools_len edges_len List.length_set HL.ints_cell HL.bools_cell edges_cell allCell_cons allCell_nil cellV HL.ints_flat HL.bools_flat edges_flat allFlat_cons allFlat_nil flatV Bool.and_true Bool.and_self Int.toNat_natCast Int.sub_zero Int.toNat_zero HL.ints_snoc HL.bools_snoc edges_snoc HL.ints_app HL.bools_app edges_app List.nil_append List.append_nil List.cons_append setFrom HL.ints_set HL.bools_set edges_setF edges_setF0 edges_setT edges_setC List.set_cons_zero List.set_cons_succ nset nget withKids kidsOf cellsOf List.flatMap_cons List.flatMap_nil stride newsOf mk_ints mk_bools IntWalk.i64_in Bool.not_true Bool.not_false Bool.false_eq_true beq_self_eq_true beq_true beq_false Bool.true_beq Bool.false_beq Bool.not_not

end Go.Proofs.Ytkhbiknjkffpjaa
