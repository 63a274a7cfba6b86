import Derived.Test.YteamkjblpglliaaHl5
set_option linter.unusedSimpArgs false
set_option linter.unusedVariables false
namespace Go.HL
set_option linter.unnecessarySimpa false
open Go.RowKit
def uD (l : List Nat) : HX -> Bool
 | .t i => l.contains i
 | .c _ => false
def jZ (l : List Nat) : HX -> Bool
 | .t i => l.contains i
 | .c v => v.deep.isEmpty
abbrev RS := List Nat × List Nat × List Nat
def quiet (a : RS) (o : az) : Bool := match o.op with
 | .mv 0 x => jZ a.1 x
 | .mv (_ + 1) x => uD a.2.1 x && uD a.1 x
 | .iaddr _ x y => jZ a.1 x && jZ a.1 y
 | .load false _ x => jZ a.1 x
 | .len x => jZ a.1 x
 | .bin _ x y => jZ a.1 x && jZ a.1 y
 | .bld zs ps => (bi zs).isEmpty && ps.all fun q => jZ a.1 q.2.2
 | _ => false
def eE (a : RS) (o : az) : Bool := match o.op with
 | .mv _ x => uD a.2.1 x
 | _ => false
def without (l : List Nat) : Option Nat -> List Nat
 | some t => l.filter (· != t)
 | none => l
def jb (a : RS) (o : az) : Bool := match o.op with
 | .mv 0 x => uD a.2.2 x
 | .mv (_ + 1) x => uD a.2.2 x && uD a.2.1 x
 | .iaddr _ x _ => uD a.2.2 x
 | _ => false
def jV (a : RS) (o : az) : Bool := match o.op with
 | .load _ _ x => uD a.2.2 x
 | _ => false
def kp (a : RS) (o : az) : Bool := match o.op with
 | .bsl _ _ xs => xs.all (jZ a.1)
 | _ => false
def AB (o : az) : Bool := match o.op with
 | .call .. => true
 | .callv .. => true
 | _ => false
def more (c : Bool) (t : Nat) (l : List Nat) : List Nat := if c then t :: l else l
def ko (a : RS) (o : az) : RS := match o.guard, o.dst with
 | none, some t => (more (quiet a o || AB o) t (without a.1 o.dst), more (eE a o) t (without a.2.1 o.dst), more (jb a o) t (without a.2.2 o.dst))
 | _, _ => (without a.1 o.dst, without a.2.1 o.dst, without a.2.2 o.dst)
def gb (ops : List az) (a0 : RS) (i : Nat) : RS := (ops.take i).foldl ko a0
def pD (masks : List Nat) (all : List az) (a0 : RS) : Bool :=
 (List.range all.length).all fun i => (List.range i).all fun k => i4 masks k i || (match all[k]?, all[i]? with | some x, some y => !lg x y || quiet (gb all a0 k) x || quiet (gb all a0 i) y || kp (gb all a0 i) y || (kp (gb all a0 k) x && jV (gb all a0 i) y) | _, _ => true)
def F0 : Nat -> Prop := fun _ => False
structure RI (nx : Nat) (a : RS) (S : Lk) : Prop where
 ro : ∀ t ∈ a.1, (S t).inn F0
 nn : ∀ t ∈ a.2.1, S t ≠ .nils
 old : ∀ t ∈ a.2.2, (S t).inn (· < nx)
theorem Df {v : HV} (h : v.inn F0) : v.deep = [] := List.eq_nil_iff_forall_not_mem.2 fun x hx => h x hx
theorem gD {nx : Nat} {a : RS} {S : Lk} (h : RI nx a S) {x : HX} (hx : jZ a.1 x = true) : (bG S x).inn F0 := by
 cases x with
 | t i => exact h.ro i (by simpa [jZ] using hx)
 | c v =>
  have hd : v.deep = [] := by simpa [jZ, List.isEmpty_iff] using hx
  intro y hy
  simp only [bG, hd] at hy
  cases hy
theorem rB {l : List Nat} {x : HX} (h : uD l x = true) : jZ l x = true := by cases x <;> simp_all [uD, jZ]
theorem pk {nx : Nat} {a : RS} {S : Lk} (h : RI nx a S) {x : HX} (hx : uD a.2.1 x = true) : bG S x ≠ .nils := by
 cases x with
 | t i => exact h.nn i (by simpa [uD] using hx)
 | c v => cases hx
theorem oS {nx : Nat} {a : RS} {S : Lk} {o : az} (h : RI nx a S) (hq : quiet a o = true) : bi (o.op.map (bG S)).vals = [] := by
 obtain ⟨d, op, g⟩ := o
 have one : ∀ {x : HX}, jZ a.1 x = true -> (bG S x).deep = [] := fun hx => Df (gD h hx)
 cases op <;> simp only [quiet] at hq <;> (try cases hq)
 case mv n x => cases n with
  | zero => simp [HOp.map, HOp.vals, bi, one hq]
  | succ n => simp only [Bool.and_eq_true] at hq; simp [HOp.map, HOp.vals, bi, one (rB hq.2)]
 case bin => simp only [Bool.and_eq_true] at hq; simp [HOp.map, HOp.vals, bi, one hq.1, one hq.2]
 case load b sz x => cases b with
  | false => simp only at hq; simp [HOp.map, HOp.vals, bi, one hq]
  | true => cases hq
 case iaddr => simp only [Bool.and_eq_true] at hq; simp [HOp.map, HOp.vals, bi, one hq.1, one hq.2]
 case len => simp [HOp.map, HOp.vals, bi, one hq]
 case bld zs ps =>
  simp only [Bool.and_eq_true, List.all_eq_true] at hq
  refine List.eq_nil_iff_forall_not_mem.2 fun x hx => ?_
  obtain ⟨v, hv, hxv⟩ := mem_deepL.1 hx
  simp only [HOp.map, HOp.vals, List.map_map, List.mem_map, Function.comp] at hv
  obtain ⟨q, hq1, rfl⟩ := hv
  rw [one (hq.2 q hq1)] at hxv
  cases hxv
theorem vE {nx : Nat} {a : RS} {S : Lk} (h : RI nx a S) {zs : List HV} {ps : List (Nat × Nat × HX)} (hq : ((bi zs).isEmpty && ps.all fun q => jZ a.1 q.2.2) = true) : (HV.agg (gF zs (ps.map fun p => (p.1, p.2.1, bG S p.2.2))).1).inn F0 := by
 simp only [Bool.and_eq_true, List.all_eq_true, List.isEmpty_iff] at hq
 have h1 : innL F0 zs := innL_iff.2 (by rw [hq.1]; simp)
 have h2 := qP (ps := ps.map fun p => (p.1, p.2.1, bG S p.2.2)) h1 (fun q hq' => by
  obtain ⟨p, hp, rfl⟩ := List.mem_map.1 hq'
  exact gD h (hq.2 p hp))
 intro x hx
 exact innL_iff.1 h2 x hx
theorem nX {nx : Nat} {a : RS} {S : Lk} {o : az} (h : RI nx a S) (hq : quiet a o = true) (L : Lk) (fr : Nat) : (aA L fr (o.op.map (bG S))).2.1 = [] /\ (aA L fr (o.op.map (bG S))).1.inn F0 /\ (eE a o = true -> (aA L fr (o.op.map (bG S))).1 ≠ .nils) := by
 obtain ⟨d, op, g⟩ := o
 cases op <;> simp only [quiet] at hq <;> (try cases hq)
 case mv n x => cases n with
  | zero => exact ⟨by cases hv : bG S x <;> simp [HOp.map, aA, hv], by have := gD h hq; cases hv : bG S x <;> simpa [HOp.map, aA, hv] using this, fun hk => by have := pk h hk; cases hv : bG S x <;> simp_all [HOp.map, aA]⟩
  | succ n =>
   simp only [Bool.and_eq_true] at hq
   have h1 := pk h hq.1
   have h2 := gD h (rB hq.2)
   refine ⟨by cases hv : bG S x <;> simp_all [HOp.map, aA], by cases hv : bG S x <;> simp_all [HOp.map, aA], fun _ => by cases hv : bG S x <;> simp_all [HOp.map, aA]⟩
 case bin op x y => exact ⟨rfl, uE, fun hk => by simp [eE] at hk⟩
 case load b sz x => cases b with
  | true => cases hq
  | false =>
   simp only at hq
   have h1 := gD h hq
   refine ⟨?_, ?_, fun hk => by simp [eE] at hk⟩
   ·cases hv : bG S x <;> simp [HOp.map, aA, hv]
   ·cases hv : bG S x <;> (simp only [HOp.map, aA, hv]; rw [hv] at h1)
    all_goals first | exact bN | skip
    ·simp only [pj] at h1; exact h1.getD _
    ·exact (show False from h1 _ (List.mem_singleton.2 rfl)).elim
 case iaddr sz x y =>
  simp only [Bool.and_eq_true] at hq
  have h1 := gD h hq.1
  refine ⟨?_, ?_, fun hk => by simp [eE] at hk⟩
  ·cases hv : bG S y <;> cases hw : bG S x <;> simp [HOp.map, aA, hv, hw]
  ·cases hv : bG S y <;> cases hw : bG S x <;> (simp only [HOp.map, aA, hv, hw]; rw [hw] at h1)
   all_goals first | exact bN | skip
   ·simpa using h1
   ·exact (show False from h1 _ (List.mem_singleton.2 rfl)).elim
 case bld zs ps => exact ⟨rfl, vE h hq, fun hk => by simp [eE] at hk⟩
 case len x =>
  refine ⟨by cases hv : bG S x <;> simp [HOp.map, aA, hv], ?_, fun hk => by simp [eE] at hk⟩
  cases hv : bG S x <;> simp only [HOp.map, aA, hv] <;> first | exact fX | exact bN
theorem nm {nx : Nat} {a : RS} {S : Lk} {o : az} (h : (∃ f xs, o.op.map (bG S) = .call f xs) \/ ∃ x xs, o.op.map (bG S) = .callv x xs) : (∀ t ids, (quiet a o = true -> t = ([] : List Nat) /\ ids = ([] : List Nat)) /\ (jV a o = true -> t = [] /\ ∀ x ∈ ids, x < nx) /\ (kp a o = true -> (∀ i, ∀ x ∈ t, lu nx i x) /\ ids = [])) /\ (quiet a o = false /\ eE a o = false /\ jb a o = false) := by
 obtain ⟨d, op, g⟩ := o
 cases op <;> simp_all [HOp.map, quiet, jV, kp, eE, jb]
theorem wn {us : List Upd} : ∀ {S : Lk} {t : Nat}, (S t).inn F0 -> (jY S us t).inn F0 := by
 induction us with
 | nil => intro S t h; exact h
 | cons u r ih => intro S t h; cases u with
  | put => exact ih h
  | kill id len => exact ih (S := fun t => (S t).kill id len) (kQ id len _ h)
theorem zA {v : HV} (h : v ≠ .nils) (id len : Nat) : v.kill id len ≠ .nils := by
 cases v <;> simp_all [HV.kill] <;> split <;> simp
theorem As {us : List Upd} : ∀ {S : Lk} {t : Nat}, S t ≠ .nils -> jY S us t ≠ .nils := by
 induction us with
 | nil => intro S t h; exact h
 | cons u r ih => intro S t h; cases u with
  | put => exact ih h
  | kill id len => exact ih (S := fun t => (S t).kill id len) (zA h id len)
theorem jl {l : List Nat} {d : Option Nat} {t : Nat} (h : t ∈ without l d) : t ∈ l /\ d ≠ some t := by
 cases d with
 | none => exact ⟨h, by simp⟩
 | some k =>
  simp only [without, List.mem_filter, bne_iff_ne, ne_eq] at h
  exact ⟨h.1, fun e => h.2 (by cases e; rfl)⟩
theorem xL {p : Nat -> Prop} {us : List Upd} : ∀ {S : Lk} {t : Nat}, (S t).inn p -> (jY S us t).inn p := by
 induction us with
 | nil => intro S t h; exact h
 | cons u r ih => intro S t h; cases u with
  | put => exact ih h
  | kill id len => exact ih (S := fun t => (S t).kill id len) (kQ id len _ h)
theorem sV {nx : Nat} {a : RS} {S : Lk} {o : az} (h : RI nx a S) (hq : eE a o = true) (L : Lk) (fr : Nat) : (aA L fr (o.op.map (bG S))).1 ≠ .nils := by
 obtain ⟨d, op, g⟩ := o
 cases op <;> simp only [eE] at hq <;> (try cases hq)
 rename_i n x
 have h1 := pk h hq
 cases n <;> cases hv : bG S x <;> simp_all [HOp.map, aA]
theorem mw {nx : Nat} {a : RS} {S : Lk} (h : RI nx a S) {x : HX} (hx : uD a.2.2 x = true) : (bG S x).inn (· < nx) := by
 cases x with
 | t i => exact h.old i (by simpa [uD] using hx)
 | c v => cases hx
theorem tH {nx : Nat} {a : RS} {S : Lk} {o : az} (h : RI nx a S) (hq : jb a o = true) (L : Lk) (fr : Nat) : (aA L fr (o.op.map (bG S))).1.inn (· < nx) := by
 obtain ⟨d, op, g⟩ := o
 cases op <;> simp only [jb] at hq <;> (try cases hq)
 case mv n x => cases n with
  | zero =>
   have h1 := mw h hq
   cases hv : bG S x <;> (rw [hv] at h1; simpa [HOp.map, aA, hv] using h1)
  | succ n =>
   simp only [Bool.and_eq_true] at hq
   have h1 := mw h hq.1
   have h2 := pk h hq.2
   cases hv : bG S x <;> first | exact absurd hv h2 | (rw [hv] at h1; simpa [HOp.map, aA, hv] using h1)
 case iaddr sz x y =>
  have h1 := mw h hq
  cases hv : bG S y <;> cases hw : bG S x <;> (simp only [HOp.map, aA, hv, hw]; rw [hw] at h1)
  all_goals first | exact bN | skip
  ·simpa using h1
  ·intro z hz
   exact h1 z hz
theorem jr {nx : Nat} {a : RS} {S : Lk} {o : az} (h : RI nx a S) (hq : jV a o = true) (L : Lk) (fr : Nat) : (aA L fr (o.op.map (bG S))).2.1 = [] /\ ∀ x ∈ du o S, x < nx := by
 obtain ⟨d, op, g⟩ := o
 cases op <;> simp only [jV] at hq <;> (try cases hq)
 rename_i b sz x
 have h1 := mw h hq
 refine ⟨?_, fun z hz => h1 z ?_⟩
 ·cases hv : bG S x <;> cases b <;> simp [HOp.map, aA, hv]
 ·simpa [du, HOp.map, HOp.vals, bi] using hz
theorem vY {L : Lk} {v : HV} (h : v.deep = []) : (bP L v).2.1 = [] := by
 cases v <;> simp_all [bP, HV.deep]
theorem vN : ∀ {l : List HV} {L : Lk}, bi l = [] -> (cb L l).2.1 = [] := by
 intro l
 induction l with
 | nil => intro L _; rfl
 | cons v r ih =>
  intro L h
  simp only [bi, List.append_eq_nil_iff] at h
  simp only [cb, vY h.1, Lk.upd, List.nil_append]
  exact ih h.2
theorem kC {nx : Nat} {a : RS} {S : Lk} {o : az} (h : RI nx a S) (hq : kp a o = true) (L : Lk) (fr : Nat) : c7 (aA L fr (o.op.map (bG S))).2.1 = [fr] /\ du o S = [] := by
 obtain ⟨d, op, g⟩ := o
 cases op <;> simp only [kp] at hq <;> (try cases hq)
 rename_i sz n xs
 have hd : bi (xs.map (bG S)) = [] := by
  rw [List.eq_nil_iff_forall_not_mem]
  intro z hz
  rw [mem_deepL] at hz
  obtain ⟨v, hv, hz⟩ := hz
  obtain ⟨x, hx, rfl⟩ := List.mem_map.1 hv
  have := Df (gD h (List.all_eq_true.1 hq x hx))
  rw [this] at hz; cases hz
 have hd2 : bi ((xs.map (bG S)).flatMap cellsOf) = [] := by
  rw [List.eq_nil_iff_forall_not_mem]
  intro z hz
  have := lL hz
  rw [hd] at this; cases this
 refine ⟨?_, by simpa [du, HOp.map, HOp.vals] using hd⟩
 simp only [HOp.map, aA, vN hd2, List.nil_append]
 rfl
theorem RI.rest {nx : Nat} {a : RS} {S : Lk} (h : RI nx a S) {o : az} (e : HV × List Upd) : RI nx (without a.1 o.dst, without a.2.1 o.dst, without a.2.2 o.dst) (eU o e S) := by
 refine ⟨fun t ht => ?_, fun t ht => ?_, fun t ht => ?_⟩
 ·obtain ⟨h1, h2⟩ := jl ht
  simp only [eU, if_neg h2]
  exact wn (h.ro t h1)
 ·obtain ⟨h1, h2⟩ := jl ht
  simp only [eU, if_neg h2]
  exact As (h.nn t h1)
 ·obtain ⟨h1, h2⟩ := jl ht
  simp only [eU, if_neg h2]
  exact xL (h.old t h1)
theorem mP {c : Bool} {t u : Nat} {l : List Nat} (h : u ∈ more c t l) : (c = true /\ u = t) \/ u ∈ l := by
 unfold more at h
 split at h
 ·rename_i hc
  rcases List.mem_cons.1 h with h | h
  ·exact .inl ⟨hc, h⟩
  ·exact .inr h
 ·exact .inr h
theorem RI.step {nx : Nat} {a : RS} {S : Lk} (h : RI nx a S) {o : az} (e : HV × List Upd) (h1 : o.guard = none -> (quiet a o || AB o) = true -> e.1.inn F0) (h2 : o.guard = none -> eE a o = true -> e.1 ≠ .nils) (h3 : o.guard = none -> jb a o = true -> e.1.inn (· < nx)) : RI nx (ko a o) (eU o e S) := by
 have hr := h.rest (o := o) e
 unfold ko
 split
 ·rename_i t hg hd
  refine ⟨fun u hu => ?_, fun u hu => ?_, fun u hu => ?_⟩
  ·rcases mP hu with ⟨hc, rfl⟩ | hu
   ·simp only [eU, hd, if_true]; exact h1 hg hc
   ·exact hr.ro u hu
  ·rcases mP hu with ⟨hc, rfl⟩ | hu
   ·simp only [eU, hd, if_true]; exact h2 hg hc
   ·exact hr.nn u hu
  ·rcases mP hu with ⟨hc, rfl⟩ | hu
   ·simp only [eU, hd, if_true]; exact h3 hg hc
   ·exact hr.old u hu
 ·exact hr
theorem RI.loud {nx : Nat} {a : RS} {S : Lk} (h : RI nx a S) {o : az} (hq : quiet a o = false /\ eE a o = false /\ jb a o = false) (e : HV × List Upd) (hn : e.1.inn F0) : RI nx (ko a o) (eU o e S) :=
 h.step e (fun _ _ => hn) (fun _ h => by rw [hq.2.1] at h; cases h) (fun _ h => by rw [hq.2.2] at h; cases h)
theorem RI.skip {nx : Nat} {a : RS} {S : Lk} (h : RI nx a S) {o : az} (hg : o.guard ≠ none) {e : HV × List Upd} : RI nx (ko a o) (eU o e S) :=
 h.step e (fun h => absurd h hg) (fun h => absurd h hg) (fun h => absurd h hg)
theorem RI.exec {nx : Nat} {a : RS} {S M : Lk} {fr : Nat} (h : RI nx a S) {o : az} : RI nx (ko a o) (eU o ((aA M fr (o.op.map (bG S))).1, (aA M fr (o.op.map (bG S))).2.1) S) :=
 h.step _ (fun _ hq => by
  rcases Bool.or_eq_true_iff.1 hq with hq | hq
  ·exact (nX h hq M fr).2.1
  ·obtain ⟨d, op, g⟩ := o
   cases op <;> simp only [AB] at hq <;> (first | exact bN | cases hq)) (fun _ hq => sV h hq M fr) (fun _ hq => tH h hq M fr)
def Told (nx : Nat) (a : RS) (o : az) (i : Nat) (t ids : List Nat) : Prop :=
 (quiet a o = true -> t = [] /\ ids = []) /\ (jV a o = true -> t = [] /\ ∀ x ∈ ids, x < nx) /\ (kp a o = true -> (∀ x ∈ t, lu nx i x) /\ ids = [])
def uz (nx : Nat) (a : RS) (o : az) (i : Nat) (W R : List Nat) : Prop := ∃ t ids, Told nx a o i t ids /\ (∀ c ∈ W, c / 2 ∈ t) /\ ∀ c ∈ R, c / 2 ∈ ids
theorem Told.e {nx : Nat} {a : RS} {o o2 : az} {i : Nat} {us : List Upd} {S : Lk} (h : Told nx a o i (c7 us) (du o2 S)) : uz nx a o i (dg o2 S us) (iG o2 S) := ⟨_, _, h, fun _ hc => qO hc, fun _ hc => jv hc⟩
theorem wZ {P : Program} {D : FuncId -> List HV -> HV -> Prop} {ops : List az} {masks : List Nat} {nx : Nat} {K : St -> Prop} {a0 : RS} (hlit : ∀ (i : Nat) (o : az), ops[i]? = some o -> fN o = true) (hDn : ∀ f args r, D f args r -> ∀ fr, (unpack fr r).1.inn F0) (hns : pD masks ops a0 = true) : ∀ (rest : List az) (i : Nat) (log : fI) (s : St), ops.drop i = rest -> s.nx = nx -> (∀ q ∈ log, q.1 < i) -> (∀ q ∈ log, ∀ o, ops[q.1]? = some o -> uz nx (gb ops a0 q.1) o q.1 q.2.1 q.2.2) -> RI nx (gb ops a0 i) s.S -> Inv nx (fun k => k < i) s.S s.M -> (∀ q ∈ log, ∀ x ∈ q.2.2, iZ nx (fun k => k < q.1) (x / 2)) -> dq (CS P D) ops rest i K s ->
  dr (HT P) D ops masks nx (fun S M => ∃ s' : St, s'.S = S /\ s'.M = M /\ s'.nx = nx /\ K s') (List.range' i rest.length) log s.S s.M := by
 intro rest
 induction rest with
 | nil => intro i log s _ hnx _ _ _ _ _ h; exact ⟨s, rfl, rfl, hnx, h⟩
 | cons o rest ih =>
  intro i log s hdrop hnx hlog hlq hRI hI hlb h
  have hoi : ops[i]? = some o := by
   have := congrArg (fun l : List az => l[0]?) hdrop
   simpa using this
  have hdrop' : ops.drop (i + 1) = rest := by
   have := congrArg (List.drop 1) hdrop
   simpa [List.drop_drop, Nat.add_comm] using this
  simp only [List.length_cons, List.range'_succ]
  have hil := (List.getElem?_eq_some_iff.1 hoi).1
  have ck : ∀ e : HV × List Upd, Told nx (gb ops a0 i) o i (c7 e.2) (du o s.S) -> ∀ q ∈ log, yo masks ops i o e s.S q := by
   intro e he q hq b1 _ o' ho' hs
   have hlt := hlog q hq
   obtain ⟨t, ids, hl, hlt1, hlt2⟩ := hlq q hq o' ho'
   simp only [pD, List.all_eq_true, List.mem_range, Bool.or_eq_true] at hns
   have h := hns i hil q.1 hlt
   rw [ho', hoi] at h
   simp only [Bool.or_eq_true, Bool.not_eq_true', Bool.and_eq_true] at h
   have w2 := fun c (hc : c ∈ dg o s.S e.2) => qO hc
   have r2 := fun c (hc : c ∈ iG o s.S) => jv hc
   rcases h with h | (((h | h) | h) | h) | h
   ·rw [b1] at h; cases h
   ·rw [h] at hs; cases hs
   ·obtain ⟨p1, p2⟩ := hl.1 h
    rw [p1] at hlt1
    rw [p2] at hlt2
    exact ⟨fun x _ hx => by have := hlt2 x hx; simp at this, fun x hx => by have := hlt1 x hx; simp at this⟩
   ·obtain ⟨p1, p2⟩ := he.1 h
    rw [p1] at w2
    rw [p2] at r2
    exact ⟨fun x hx => by have := w2 x hx; simp at this, fun x _ hx => by have := r2 x hx; simp at this⟩
   ·obtain ⟨p3, p4⟩ := he.2.2 h
    rw [p4] at r2
    refine ⟨fun x hx hx' => ?_, fun x _ hx' => by have := r2 x hx'; simp at this⟩
    have h3 := p3 _ (w2 x hx)
    have h4 := hlb q hq x hx'
    rcases h4 with h4 | ⟨k, h4, h5⟩
    ·unfold lu at h3; omega
    ·have : k + 1 <= i := by omega
     have := Nat.mul_le_mul_left ah this
     unfold lu at h3 h5
     omega
   ·obtain ⟨p1, p2⟩ := hl.2.2 h.1
    obtain ⟨p3, p4⟩ := he.2.1 h.2
    rw [p3] at w2
    refine ⟨fun x hx => by have := w2 x hx; simp at this, fun x hx hx' => ?_⟩
    have h5 := p1 _ (hlt1 x hx)
    have h6 := p4 _ (r2 x hx')
    unfold lu at *
    omega
  have hacc : gb ops a0 (i + 1) = ko (gb ops a0 i) o := by
   unfold gb
   rw [List.take_succ_eq_append_getElem hil, List.foldl_append]
   have : ops[i] = o := by rw [List.getElem?_eq_getElem hil] at hoi; exact Option.some.inj hoi
   rw [this]; rfl
  have hent : ∀ us : List Upd, Told nx (gb ops a0 i) o i (c7 us) (du o s.S) -> ∀ q ∈ (i, dg o s.S us, iG o s.S) :: log, ∀ o', ops[q.1]? = some o' -> uz nx (gb ops a0 q.1) o' q.1 q.2.1 q.2.2 := by
   intro us hus q hq o' ho'
   rcases List.mem_cons.1 hq with rfl | hq
   ·rw [hoi] at ho'
    cases ho'
    exact hus.e
   ·exact hlq q hq o' ho'
  have tskip : Told nx (gb ops a0 i) o i (c7 []) (du o s.S) := ⟨fun h => ⟨rfl, oS hRI h⟩, fun h => ⟨rfl, (jr hRI h s.M 0).2⟩, fun h => ⟨by simp [c7], (kC hRI h s.M 0).2⟩⟩
  have stepS : ∀ (us : List Upd) (v : HV), ((s.upd us).put o.dst v).S = eU o (v, us) s.S := fun us v => by rw [St.put_S, St.upd_S]; rfl
  have stepM : ∀ (us : List Upd) (v : HV), ((s.upd us).put o.dst v).M = jQ (v, us) s.M := fun us v => by rw [St.put_M, St.upd_M]; rfl
  have hids : ∀ x ∈ du o s.S, iZ nx (fun k => k < i) x := fun x hx => innL_iff.1 (ld hI (hlit i o hoi)) x hx
  have inv : ∀ e, bZ (HT P) D ops (nx + ah * i) o s.S s.M -> cQ D ops (nx + ah * i) o s.S s.M e -> Inv nx (fun k => k < i + 1) (eU o e s.S) (jQ e s.M) := fun e hs hre => by
   obtain ⟨f1, f2, _, _⟩ := gR hI (hlit i o hoi) hs hre
   have h1 := hI.step (o := o) f1 f2
   have h2 : (fun k => k < i \/ k = i) = (fun k => k < i + 1) := by funext k; exact propext ⟨fun h => by omega, fun h => by omega⟩
   rw [h2] at h1
   exact h1
  have next : ∀ (us : List Upd) (v : HV) ent, ent.1 = i -> ent.2.2 = iG o s.S -> (∀ q ∈ ent :: log, ∀ o', ops[q.1]? = some o' -> uz nx (gb ops a0 q.1) o' q.1 q.2.1 q.2.2) -> RI nx (gb ops a0 (i + 1)) ((s.upd us).put o.dst v).S -> Inv nx (fun k => k < i + 1) (eU o (v, us) s.S) (jQ (v, us) s.M) -> dq (CS P D) ops rest (i + 1) K ((s.upd us).put o.dst v) -> dr (HT P) D ops masks nx (fun S M => ∃ s' : St, s'.S = S /\ s'.M = M /\ s'.nx = nx /\ K s') (List.range' (i + 1) rest.length) (ent :: log) (eU o (v, us) s.S) (jQ (v, us) s.M) := by
   intro us v ent he he2 hent hri hI' h'
   have := ih (i + 1) (ent :: log) ((s.upd us).put o.dst v) hdrop' (by rw [St.put_nx, St.upd_nx]; exact hnx) (fun q hq => by
    rcases List.mem_cons.1 hq with rfl | hq
    ·omega
    ·have := hlog q hq; omega) hent hri (by rw [stepS, stepM]; exact hI') (fun q hq x hx => by
    rcases List.mem_cons.1 hq with rfl | hq
    ·rw [he2] at hx; rw [he]; exact hids _ (jv hx)
    ·exact hlb q hq x hx) h'
   rw [stepS, stepM] at this
   exact this
  have hstr : s.nx + ah * (i + 1) = nx + ah * i + ah := by rw [hnx]; unfold ah; omega
  have run : gd ops o s.S = some true -> sq (CS P D) s i o (dq (CS P D) ops rest (i + 1) K) -> ∃ o', ops[i]? = some o' /\ bZ (HT P) D ops (nx + ah * i) o' s.S s.M /\ (∃ e, cQ D ops (nx + ah * i) o' s.S s.M e) /\ ∀ e, cQ D ops (nx + ah * i) o' s.S s.M e -> (∀ q ∈ log, yo masks ops i o' e s.S q) /\ dr (HT P) D ops masks nx (fun S M => ∃ s' : St, s'.S = S /\ s'.M = M /\ s'.nx = nx /\ K s') (List.range' (i + 1) rest.length) ((i, dg o' s.S e.2, iG o' s.S) :: log) (eU o' e s.S) (jQ e s.M) := by
   intro hg hh
   refine ⟨o, hoi, ?_⟩
   unfold bZ cQ
   rw [hg]
   simp only
   have hM : (fun i => aG i s.st) = s.M := rfl
   replace hh := hh.resolve_right (fun h => h)
   unfold ml at hh
   rw [fi, hM, hstr, hnx] at hh
   have callc : ∀ (f : FuncId) (args xs : List HV), (∀ t ids, Told nx (gb ops a0 i) o i t ids) /\ (quiet (gb ops a0 i) o = false /\ eE (gb ops a0 i) o = false /\ jb (gb ops a0 i) o = false) -> ((HT P f args (D f args) /\ ∀ r, D f args r -> r.deep = [] -> (aT xs || r.noRd) = true /\ (unpack (nx + ah * i) r).2.2 <= nx + ah * i + ah) -> bZ (HT P) D ops (nx + ah * i) o s.S s.M) -> (∀ e : HV × List Upd, (∃ r, D f args r /\ r.deep = [] /\ e = ((unpack (nx + ah * i) r).1, (unpack (nx + ah * i) r).2.1)) -> cQ D ops (nx + ah * i) o s.S s.M e) -> (CS P D f args fun r => (aT xs || r.noRd) = true /\ (unpack (nx + ah * i) r).2.2 <= nx + ah * i + ah /\ dq (CS P D) ops rest (i + 1) K ((s.upd (unpack (nx + ah * i) r).2.1).put o.dst (unpack (nx + ah * i) r).1)) ->
     (HT P f args (D f args) /\ ∀ r, D f args r -> r.deep = [] -> (aT xs || r.noRd) = true /\ (unpack (nx + ah * i) r).2.2 <= nx + ah * i + ah) /\ (∃ e : HV × List Upd, ∃ r, D f args r /\ r.deep = [] /\ e = ((unpack (nx + ah * i) r).1, (unpack (nx + ah * i) r).2.1)) /\
     ∀ e : HV × List Upd, (∃ r, D f args r /\ r.deep = [] /\ e = ((unpack (nx + ah * i) r).1, (unpack (nx + ah * i) r).2.1)) -> (∀ q ∈ log, yo masks ops i o e s.S q) /\ dr (HT P) D ops masks nx (fun S M => ∃ s' : St, s'.S = S /\ s'.M = M /\ s'.nx = nx /\ K s') (List.range' (i + 1) rest.length) ((i, dg o s.S e.2, iG o s.S) :: log) (eU o e s.S) (jQ e s.M) := by
    rintro f args xs hnq hf1 hf2 ⟨c1, ⟨r0, c2, c3⟩, c4⟩
    have hsd : HT P f args (D f args) /\ ∀ r, D f args r -> r.deep = [] -> (aT xs || r.noRd) = true /\ (unpack (nx + ah * i) r).2.2 <= nx + ah * i + ah := ⟨c1, fun r a b => ⟨(c4 r a b).1, (c4 r a b).2.1⟩⟩
    refine ⟨hsd, ⟨_, r0, c2, c3, rfl⟩, ?_⟩
    rintro e ⟨r, d1, d2, rfl⟩
    exact ⟨ck _ (hnq.1 _ _), next _ _ _ rfl rfl (hent _ (hnq.1 _ _)) (by rw [hacc, stepS]; exact RI.loud hRI hnq.2 _ (hDn _ _ _ d1 _)) (inv _ (hf1 hsd) (hf2 _ ⟨r, d1, d2, rfl⟩)) (c4 r d1 d2).2.2⟩
   split at hh
   ·rename_i f xs heq
    rw [heq]
    have hq := nm (nx := nx) (a := gb ops a0 i) (.inl ⟨f, xs, heq⟩)
    exact callc f _ xs ⟨fun t ids => ⟨(hq.1 t ids).1, (hq.1 t ids).2.1, fun h => ⟨((hq.1 t ids).2.2 h).1 i, ((hq.1 t ids).2.2 h).2⟩⟩, hq.2⟩ (fun h => by unfold bZ; rw [hg]; simp only; rw [heq]; exact h) (fun e h => by unfold cQ; rw [hg]; simp only; rw [heq]; exact h) hh
   ·rename_i f cap xs heq
    rw [heq]
    have hq := nm (nx := nx) (a := gb ops a0 i) (.inr ⟨_, xs, heq⟩)
    exact callc f _ (xs ++ cap) ⟨fun t ids => ⟨(hq.1 t ids).1, (hq.1 t ids).2.1, fun h => ⟨((hq.1 t ids).2.2 h).1 i, ((hq.1 t ids).2.2 h).2⟩⟩, hq.2⟩ (fun h => by unfold bZ; rw [hg]; simp only; rw [heq]; exact h) (fun e h => by unfold cQ; rw [hg]; simp only; rw [heq]; exact h) hh
   ·rename_i op h1 h2
    have e1 : gx (HT P) D s.M (nx + ah * i) (o.op.map (bG s.S)) = (aA s.M (nx + ah * i) (o.op.map (bG s.S))).2.2 := by
     unfold gx; split
     ·rename_i f xs heq; exact absurd heq (h1 f xs)
     ·rename_i f cap xs heq; exact absurd heq (h2 f cap xs)
     ·rfl
    have e2 : ∀ e, iT D s.M (nx + ah * i) e (o.op.map (bG s.S)) = (e = ((aA s.M (nx + ah * i) (o.op.map (bG s.S))).1, (aA s.M (nx + ah * i) (o.op.map (bG s.S))).2.1)) := fun e => by
     unfold iT; split
     ·rename_i f xs heq; exact absurd heq (h1 f xs)
     ·rename_i f cap xs heq; exact absurd heq (h2 f cap xs)
     ·rfl
    rw [e1]
    simp only [e2]
    refine ⟨hh.1, ⟨_, rfl⟩, ?_⟩
    rintro e rfl
    have hus : Told nx (gb ops a0 i) o i (c7 (aA s.M (nx + ah * i) (o.op.map (bG s.S))).2.1) (du o s.S) :=
     ⟨fun h => ⟨by rw [(nX hRI h _ _).1]; rfl, oS hRI h⟩, fun h => ⟨by rw [(jr hRI h _ _).1]; rfl, (jr hRI h s.M 0).2⟩, fun h => ⟨by rw [(kC hRI h _ _).1]; intro x hx; simp at hx; subst hx; unfold lu ah; omega, (kC hRI h s.M 0).2⟩⟩
    exact ⟨ck _ hus, next _ _ _ rfl rfl (hent _ hus) (by rw [hacc, stepS]; exact RI.exec hRI) (inv _ (by unfold bZ; rw [hg]; simp only; rw [e1]; exact hh.1) (by unfold cQ; rw [hg]; simp only; rw [e2])) hh.2⟩
  simp only [dq] at h
  cases hg : o.guard with
  | none =>
   rw [hg] at h
   exact run (by unfold gd; rw [hg]) h
  | some jw =>
   obtain ⟨j, want⟩ := jw
   rw [hg] at h
   simp only at h
   cases hd : (ops[j]?).bind (·.dst) with
   | none => rw [hd] at h; exact h.elim
   | some d =>
    rw [hd] at h
    simp only [Option.map_some] at h
    generalize hv : aG d s.sl = v at h
    cases v with
    | bool b =>
     simp only at h
     have hv' : s.S d = .bool b := hv
     have hgd : gd ops o s.S = some (b == want) := by unfold gd; rw [hg]; simp only [hd, Option.map_some, hv']
     by_cases hbw : b = want
     ·exact run (by rw [hgd]; simp [hbw]) (h.1 hbw)
     ·refine ⟨o, hoi, ?_⟩
      have : (b == want) = false := by simpa using hbw
      unfold bZ cQ
      rw [hgd, this]
      simp only
      refine ⟨trivial, ⟨_, rfl⟩, ?_⟩
      rintro e rfl
      exact ⟨ck _ tskip, next [] (.tup []) _ rfl rfl (hent [] tskip) (by rw [hacc, stepS]; exact RI.skip hRI (by rw [hg]; simp)) (inv _ (by unfold bZ; rw [hgd, this]; trivial) (by unfold cQ; rw [hgd, this])) (h.2 hbw)⟩
    | tup cs =>
     cases cs with
     | cons _ _ => exact h.elim
     | nil =>
      simp only at h
      have hv' : s.S d = .tup [] := hv
      have hgd : gd ops o s.S = some false := by unfold gd; rw [hg]; simp only [hd, Option.map_some, hv']
      refine ⟨o, hoi, ?_⟩
      unfold bZ cQ
      rw [hgd]
      simp only
      refine ⟨trivial, ⟨_, rfl⟩, ?_⟩
      rintro e rfl
      exact ⟨ck _ tskip, next [] (.tup []) _ rfl rfl (hent [] tskip) (by rw [hacc, stepS]; exact RI.skip hRI (by rw [hg]; simp)) (inv _ (by unfold bZ; rw [hgd]; trivial) (by unfold cQ; rw [hgd])) h⟩
    | _ => exact h.elim
theorem rC {P : Program} {k : List HI} {Q : HE -> St -> Prop} {s : St} {ops : List az} {masks : List Nat} (ro0 old0 : List Nat) (h1 : iy masks ops = true) (h2 : pD masks ops (ro0, ro0 ++ old0, old0) = true) (D : FuncId -> List HV -> HV -> Prop) (h0 : ∀ t ∈ ro0, (aG t s.sl).deep = [] /\ aG t s.sl ≠ .nils) (h00 : ∀ t ∈ old0, (∀ x ∈ (aG t s.sl).deep, x < s.nx) /\ aG t s.sl ≠ .nils) (h : hx P (.o (CS P D) ops ops 0 :: k) Q s) (hDn : ∀ f args r, D f args r -> ∀ fr, (unpack fr r).1.inn F0 := by intro _ _ _ h; exact h.elim) : hx P (.c (.region (some masks) ops) :: k) Q s := by
 refine zR (Weak.refl s) ?_
 refine ⟨h1, fun hI => .inl ⟨D, ?_⟩⟩
 have hlit : ∀ i o, ops[i]? = some o -> fN o = true := fun i o ho => (em h1 ho).2.1
 have hI0 : Inv s.nx (fun k => k < 0) s.S s.M := by
  have : (fun k : Nat => k < 0) = fun _ => False := by funext k; exact propext ⟨fun h => by omega, fun h => h.elim⟩
  rw [this]; exact hI
 have hRI : RI s.nx (gb ops (ro0, ro0 ++ old0, old0) 0) s.S := by
  refine ⟨fun t ht x hx => ?_, fun t ht => ?_, fun t ht => (h00 t ht).1⟩
  ·have h3 := (h0 t ht).1
   have h4 : s.S t = aG t s.sl := rfl
   rw [h4, h3] at hx
   cases hx
  ·rcases List.mem_append.1 ht with ht | ht
   ·exact (h0 t ht).2
   ·exact (h00 t ht).2
 unfold hx at h
 have := wZ hlit hDn h2 ops 0 [] s rfl rfl (by simp) (by simp) hRI hI0 (by simp) h
 rw [List.range_eq_range']
 exact this
end Go.HL
