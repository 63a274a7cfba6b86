
import Derived.Test.YtjlidhijnohkbaaHl5
/-
  OWN WORK. Drawn orders in which some operations only read what nothing writes.
-/
set_option linter.unusedSimpArgs false
set_option linter.unusedVariables false
namespace Go.HL
set_option linter.unnecessarySimpa false
open Go.RowKit

/-- Drawn orders in which some operations only read what nothing writes. -/
def inT (l : List Nat) : HX → Bool
  | .t i => l.contains i
  | .c _ => false
def inSl (l : List Nat) : HX → Bool
  | .t i => l.contains i
  | .c v => v.deep.isEmpty
abbrev RS := List Nat × List Nat × List Nat
def quiet (a : RS) (o : HOper) : Bool := match o.op with
  | .mv 0 x => inSl a.1 x
  | .mv (_ + 1) x => inT a.2.1 x && inT a.1 x
  | .iaddr _ x y => inSl a.1 x && inSl a.1 y
  | .load false _ x => inSl a.1 x
  | .len x => inSl a.1 x
  | .bin _ x y => inSl a.1 x && inSl a.1 y
  | .bld zs ps => (deepL zs).isEmpty && ps.all fun q => inSl a.1 q.2.2
  | _ => false
def keepsT (a : RS) (o : HOper) : Bool := match o.op with
  | .mv _ x => inT a.2.1 x
  | _ => false
def without (l : List Nat) : Option Nat → List Nat
  | some t => l.filter (· != t)
  | none => l
def keepsO (a : RS) (o : HOper) : Bool := match o.op with
  | .mv 0 x => inT a.2.2 x
  | .mv (_ + 1) x => inT a.2.2 x && inT a.2.1 x
  | .iaddr _ x _ => inT a.2.2 x
  | _ => false
def loadOld (a : RS) (o : HOper) : Bool := match o.op with
  | .load _ _ x => inT a.2.2 x
  | _ => false
def freshW (a : RS) (o : HOper) : Bool := match o.op with
  | .bsl _ _ xs => xs.all (inSl a.1)
  | _ => false
def more (c : Bool) (t : Nat) (l : List Nat) : List Nat := if c then t :: l else l
def roStep (a : RS) (o : HOper) : RS := match o.guard, o.dst with
  | none, some t => (more (quiet a o) t (without a.1 o.dst), more (keepsT a o) t (without a.2.1 o.dst), more (keepsO a o) t (without a.2.2 o.dst))
  | _, _ => (without a.1 o.dst, without a.2.1 o.dst, without a.2.2 o.dst)
def roAt (ops : List HOper) (a0 : RS) (i : Nat) : RS := (ops.take i).foldl roStep a0
def noSuspR (masks : List Nat) (all : List HOper) (a0 : RS) : Bool :=
  (List.range all.length).all fun i => (List.range i).all fun k => bef masks k i || (match all[k]?, all[i]? with | some x, some y => !susp x y || quiet (roAt all a0 k) x || quiet (roAt all a0 i) y || freshW (roAt all a0 i) y || (freshW (roAt all a0 k) x && loadOld (roAt all a0 i) y) | _, _ => true)
def F0 : Nat → Prop := fun _ => False
structure RI (nx : Nat) (a : RS) (S : Lk) : Prop where
  ro : ∀ t ∈ a.1, (S t).inn F0
  nn : ∀ t ∈ a.2.1, S t ≠ .nils
  old : ∀ t ∈ a.2.2, (S t).inn (· < nx)
theorem inn0 {v : HV} (h : v.inn F0) : v.deep = [] := List.eq_nil_iff_forall_not_mem.2 fun x hx => h x hx
theorem inSl_inn {nx : Nat} {a : RS} {S : Lk} (h : RI nx a S) {x : HX} (hx : inSl a.1 x = true) : (evL S x).inn F0 := by
  cases x with
  | t i => exact h.ro i (by simpa [inSl] using hx)
  | c v =>
    have hd : v.deep = [] := by simpa [inSl, List.isEmpty_iff] using hx
    intro y hy
    simp only [evL, hd] at hy
    cases hy
theorem inT_inSl {l : List Nat} {x : HX} (h : inT l x = true) : inSl l x = true := by cases x <;> simp_all [inT, inSl]
theorem inT_nn {nx : Nat} {a : RS} {S : Lk} (h : RI nx a S) {x : HX} (hx : inT a.2.1 x = true) : evL S x ≠ .nils := by
  cases x with
  | t i => exact h.nn i (by simpa [inT] using hx)
  | c v => cases hx
theorem quiet_ids {nx : Nat} {a : RS} {S : Lk} {o : HOper} (h : RI nx a S) (hq : quiet a o = true) : deepL (o.op.map (evL S)).vals = [] := by
  obtain ⟨d, op, g⟩ := o
  have one : ∀ {x : HX}, inSl a.1 x = true → (evL S x).deep = [] := fun hx => inn0 (inSl_inn h hx)
  cases op <;> simp only [quiet] at hq <;> (try cases hq)
  case mv n x => cases n with
    | zero => simp [HOp.map, HOp.vals, deepL, one hq]
    | succ n => simp only [Bool.and_eq_true] at hq; simp [HOp.map, HOp.vals, deepL, one (inT_inSl hq.2)]
  case bin => simp only [Bool.and_eq_true] at hq; simp [HOp.map, HOp.vals, deepL, one hq.1, one hq.2]
  case load b sz x => cases b with
    | false => simp only at hq; simp [HOp.map, HOp.vals, deepL, one hq]
    | true => cases hq
  case iaddr => simp only [Bool.and_eq_true] at hq; simp [HOp.map, HOp.vals, deepL, one hq.1, one hq.2]
  case len => simp [HOp.map, HOp.vals, deepL, one hq]
  case bld zs ps =>
    simp only [Bool.and_eq_true, List.all_eq_true] at hq
    refine List.eq_nil_iff_forall_not_mem.2 fun x hx => ?_
    obtain ⟨v, hv, hxv⟩ := mem_deepL.1 hx
    simp only [HOp.map, HOp.vals, List.map_map, List.mem_map, Function.comp] at hv
    obtain ⟨q, hq1, rfl⟩ := hv
    rw [one (hq.2 q hq1)] at hxv
    cases hxv
theorem quiet_bld {nx : Nat} {a : RS} {S : Lk} (h : RI nx a S) {zs : List HV} {ps : List (Nat × Nat × HX)} (hq : ((deepL zs).isEmpty && ps.all fun q => inSl a.1 q.2.2) = true) : (HV.agg (fillAt zs (ps.map fun p => (p.1, p.2.1, evL S p.2.2))).1).inn F0 := by
  simp only [Bool.and_eq_true, List.all_eq_true, List.isEmpty_iff] at hq
  have h1 : innL F0 zs := innL_iff.2 (by rw [hq.1]; simp)
  have h2 := inn_fill (ps := ps.map fun p => (p.1, p.2.1, evL S p.2.2)) h1 (fun q hq' => by
    obtain ⟨p, hp, rfl⟩ := List.mem_map.1 hq'
    exact inSl_inn h (hq.2 p hp))
  intro x hx
  exact innL_iff.1 h2 x hx
theorem quiet_top {nx : Nat} {a : RS} {S : Lk} {o : HOper} (h : RI nx a S) (hq : quiet a o = true) (L : Lk) (fr : Nat) : (topv L fr (o.op.map (evL S))).2.1 = [] ∧ (topv L fr (o.op.map (evL S))).1.inn F0 ∧ (keepsT a o = true → (topv L fr (o.op.map (evL S))).1 ≠ .nils) := by
  obtain ⟨d, op, g⟩ := o
  cases op <;> simp only [quiet] at hq <;> (try cases hq)
  case mv n x => cases n with
    | zero => exact ⟨by cases hv : evL S x <;> simp [HOp.map, topv, hv], by have := inSl_inn h hq; cases hv : evL S x <;> simpa [HOp.map, topv, hv] using this, fun hk => by have := inT_nn h hk; cases hv : evL S x <;> simp_all [HOp.map, topv]⟩
    | succ n =>
      simp only [Bool.and_eq_true] at hq
      have h1 := inT_nn h hq.1
      have h2 := inSl_inn h (inT_inSl hq.2)
      refine ⟨by cases hv : evL S x <;> simp_all [HOp.map, topv], by cases hv : evL S x <;> simp_all [HOp.map, topv], fun _ => by cases hv : evL S x <;> simp_all [HOp.map, topv]⟩
  case bin op x y => exact ⟨rfl, inn_bin, fun hk => by simp [keepsT] at hk⟩
  case load b sz x => cases b with
    | true => cases hq
    | false =>
      simp only at hq
      have h1 := inSl_inn h hq
      refine ⟨?_, ?_, fun hk => by simp [keepsT] at hk⟩
      · cases hv : evL S x <;> simp [HOp.map, topv, hv]
      · cases hv : evL S x <;> (simp only [HOp.map, topv, hv]; rw [hv] at h1)
        all_goals first | exact inn_dead | skip
        · simp only [inn_ptr] at h1; exact h1.getD _
        · exact (show False from h1 _ (List.mem_singleton.2 rfl)).elim
  case iaddr sz x y =>
    simp only [Bool.and_eq_true] at hq
    have h1 := inSl_inn h hq.1
    refine ⟨?_, ?_, fun hk => by simp [keepsT] at hk⟩
    · cases hv : evL S y <;> cases hw : evL S x <;> simp [HOp.map, topv, hv, hw]
    · cases hv : evL S y <;> cases hw : evL S x <;> (simp only [HOp.map, topv, hv, hw]; rw [hw] at h1)
      all_goals first | exact inn_dead | skip
      · simpa using h1
      · exact (show False from h1 _ (List.mem_singleton.2 rfl)).elim
  case bld zs ps => exact ⟨rfl, quiet_bld h hq, fun hk => by simp [keepsT] at hk⟩
  case len x =>
    refine ⟨by cases hv : evL S x <;> simp [HOp.map, topv, hv], ?_, fun hk => by simp [keepsT] at hk⟩
    cases hv : evL S x <;> simp only [HOp.map, topv, hv] <;> first | exact inn_int | exact inn_dead
theorem quiet_call {nx : Nat} {a : RS} {S : Lk} {o : HOper} (h : (∃ f xs, o.op.map (evL S) = .call f xs) ∨ ∃ x xs, o.op.map (evL S) = .callv x xs) : (∀ t ids, (quiet a o = true → t = ([] : List Nat) ∧ ids = ([] : List Nat)) ∧ (loadOld a o = true → t = [] ∧ ∀ x ∈ ids, x < nx) ∧ (freshW a o = true → (∀ i, ∀ x ∈ t, rng nx i x) ∧ ids = [])) ∧ (quiet a o = false ∧ keepsT a o = false ∧ keepsO a o = false) := by
  obtain ⟨d, op, g⟩ := o
  cases op <;> simp_all [HOp.map, quiet, loadOld, freshW, keepsT, keepsO]
theorem slU_inn0 {us : List Upd} : ∀ {S : Lk} {t : Nat}, (S t).inn F0 → (slU S us t).inn F0 := by
  induction us with
  | nil => intro S t h; exact h
  | cons u r ih => intro S t h; cases u with
    | put => exact ih h
    | kill id len => exact ih (S := fun t => (S t).kill id len) (kill_inn id len _ h)
theorem kill_nn {v : HV} (h : v ≠ .nils) (id len : Nat) : v.kill id len ≠ .nils := by
  cases v <;> simp_all [HV.kill] <;> split <;> simp
theorem slU_nn {us : List Upd} : ∀ {S : Lk} {t : Nat}, S t ≠ .nils → slU S us t ≠ .nils := by
  induction us with
  | nil => intro S t h; exact h
  | cons u r ih => intro S t h; cases u with
    | put => exact ih h
    | kill id len => exact ih (S := fun t => (S t).kill id len) (kill_nn h id len)
theorem mem_without {l : List Nat} {d : Option Nat} {t : Nat} (h : t ∈ without l d) : t ∈ l ∧ d ≠ some t := by
  cases d with
  | none => exact ⟨h, by simp⟩
  | some k =>
    simp only [without, List.mem_filter, bne_iff_ne, ne_eq] at h
    exact ⟨h.1, fun e => h.2 (by cases e; rfl)⟩
theorem slU_innP {p : Nat → Prop} {us : List Upd} : ∀ {S : Lk} {t : Nat}, (S t).inn p → (slU S us t).inn p := by
  induction us with
  | nil => intro S t h; exact h
  | cons u r ih => intro S t h; cases u with
    | put => exact ih h
    | kill id len => exact ih (S := fun t => (S t).kill id len) (kill_inn id len _ h)
theorem keepsT_top {nx : Nat} {a : RS} {S : Lk} {o : HOper} (h : RI nx a S) (hq : keepsT a o = true) (L : Lk) (fr : Nat) : (topv L fr (o.op.map (evL S))).1 ≠ .nils := by
  obtain ⟨d, op, g⟩ := o
  cases op <;> simp only [keepsT] at hq <;> (try cases hq)
  rename_i n x
  have h1 := inT_nn h hq
  cases n <;> cases hv : evL S x <;> simp_all [HOp.map, topv]
theorem inT_old {nx : Nat} {a : RS} {S : Lk} (h : RI nx a S) {x : HX} (hx : inT a.2.2 x = true) : (evL S x).inn (· < nx) := by
  cases x with
  | t i => exact h.old i (by simpa [inT] using hx)
  | c v => cases hx
theorem keepsO_top {nx : Nat} {a : RS} {S : Lk} {o : HOper} (h : RI nx a S) (hq : keepsO a o = true) (L : Lk) (fr : Nat) : (topv L fr (o.op.map (evL S))).1.inn (· < nx) := by
  obtain ⟨d, op, g⟩ := o
  cases op <;> simp only [keepsO] at hq <;> (try cases hq)
  case mv n x => cases n with
    | zero =>
      have h1 := inT_old h hq
      cases hv : evL S x <;> (rw [hv] at h1; simpa [HOp.map, topv, hv] using h1)
    | succ n =>
      simp only [Bool.and_eq_true] at hq
      have h1 := inT_old h hq.1
      have h2 := inT_nn h hq.2
      cases hv : evL S x <;> first | exact absurd hv h2 | (rw [hv] at h1; simpa [HOp.map, topv, hv] using h1)
  case iaddr sz x y =>
    have h1 := inT_old h hq
    cases hv : evL S y <;> cases hw : evL S x <;> (simp only [HOp.map, topv, hv, hw]; rw [hw] at h1)
    all_goals first | exact inn_dead | skip
    · simpa using h1
    · intro z hz
      exact h1 z hz
theorem loadOld_top {nx : Nat} {a : RS} {S : Lk} {o : HOper} (h : RI nx a S) (hq : loadOld a o = true) (L : Lk) (fr : Nat) : (topv L fr (o.op.map (evL S))).2.1 = [] ∧ ∀ x ∈ opids o S, x < nx := by
  obtain ⟨d, op, g⟩ := o
  cases op <;> simp only [loadOld] at hq <;> (try cases hq)
  rename_i b sz x
  have h1 := inT_old h hq
  refine ⟨?_, fun z hz => h1 z ?_⟩
  · cases hv : evL S x <;> cases b <;> simp [HOp.map, topv, hv]
  · simpa [opids, HOp.map, HOp.vals, deepL] using hz
theorem takeC_us0 {L : Lk} {v : HV} (h : v.deep = []) : (takeC L v).2.1 = [] := by
  cases v <;> simp_all [takeC, HV.deep]
theorem takeL_us0 : ∀ {l : List HV} {L : Lk}, deepL l = [] → (takeL L l).2.1 = [] := by
  intro l
  induction l with
  | nil => intro L _; rfl
  | cons v r ih =>
    intro L h
    simp only [deepL, List.append_eq_nil_iff] at h
    simp only [takeL, takeC_us0 h.1, Lk.upd, List.nil_append]
    exact ih h.2
theorem freshW_top {nx : Nat} {a : RS} {S : Lk} {o : HOper} (h : RI nx a S) (hq : freshW a o = true) (L : Lk) (fr : Nat) : tgts (topv L fr (o.op.map (evL S))).2.1 = [fr] ∧ opids o S = [] := by
  obtain ⟨d, op, g⟩ := o
  cases op <;> simp only [freshW] at hq <;> (try cases hq)
  rename_i sz n xs
  have hd : deepL (xs.map (evL S)) = [] := by
    rw [List.eq_nil_iff_forall_not_mem]
    intro z hz
    rw [mem_deepL] at hz
    obtain ⟨v, hv, hz⟩ := hz
    obtain ⟨x, hx, rfl⟩ := List.mem_map.1 hv
    have := inn0 (inSl_inn h (List.all_eq_true.1 hq x hx))
    rw [this] at hz; cases hz
  have hd2 : deepL ((xs.map (evL S)).flatMap cellsOf) = [] := by
    rw [List.eq_nil_iff_forall_not_mem]
    intro z hz
    have := deep_flat hz
    rw [hd] at this; cases this
  refine ⟨?_, by simpa [opids, HOp.map, HOp.vals] using hd⟩
  simp only [HOp.map, topv, takeL_us0 hd2, List.nil_append]
  rfl
theorem RI.rest {nx : Nat} {a : RS} {S : Lk} (h : RI nx a S) {o : HOper} (e : HV × List Upd) : RI nx (without a.1 o.dst, without a.2.1 o.dst, without a.2.2 o.dst) (apS o e S) := by
  refine ⟨fun t ht => ?_, fun t ht => ?_, fun t ht => ?_⟩
  · obtain ⟨h1, h2⟩ := mem_without ht
    simp only [apS, if_neg h2]
    exact slU_inn0 (h.ro t h1)
  · obtain ⟨h1, h2⟩ := mem_without ht
    simp only [apS, if_neg h2]
    exact slU_nn (h.nn t h1)
  · obtain ⟨h1, h2⟩ := mem_without ht
    simp only [apS, if_neg h2]
    exact slU_innP (h.old t h1)
theorem mem_more {c : Bool} {t u : Nat} {l : List Nat} (h : u ∈ more c t l) : (c = true ∧ u = t) ∨ u ∈ l := by
  unfold more at h
  split at h
  · rename_i hc
    rcases List.mem_cons.1 h with h | h
    · exact .inl ⟨hc, h⟩
    · exact .inr h
  · exact .inr h
theorem RI.step {nx : Nat} {a : RS} {S : Lk} (h : RI nx a S) {o : HOper} (e : HV × List Upd) (h1 : o.guard = none → quiet a o = true → e.1.inn F0) (h2 : o.guard = none → keepsT a o = true → e.1 ≠ .nils) (h3 : o.guard = none → keepsO a o = true → e.1.inn (· < nx)) : RI nx (roStep a o) (apS o e S) := by
  have hr := h.rest (o := o) e
  unfold roStep
  split
  · rename_i t hg hd
    refine ⟨fun u hu => ?_, fun u hu => ?_, fun u hu => ?_⟩
    · rcases mem_more hu with ⟨hc, rfl⟩ | hu
      · simp only [apS, hd, if_true]; exact h1 hg hc
      · exact hr.ro u hu
    · rcases mem_more hu with ⟨hc, rfl⟩ | hu
      · simp only [apS, hd, if_true]; exact h2 hg hc
      · exact hr.nn u hu
    · rcases mem_more hu with ⟨hc, rfl⟩ | hu
      · simp only [apS, hd, if_true]; exact h3 hg hc
      · exact hr.old u hu
  · exact hr
theorem RI.loud {nx : Nat} {a : RS} {S : Lk} (h : RI nx a S) {o : HOper} (hq : quiet a o = false ∧ keepsT a o = false ∧ keepsO a o = false) (e : HV × List Upd) : RI nx (roStep a o) (apS o e S) :=
  h.step e (fun _ h => by rw [hq.1] at h; cases h) (fun _ h => by rw [hq.2.1] at h; cases h) (fun _ h => by rw [hq.2.2] at h; cases h)
theorem RI.skip {nx : Nat} {a : RS} {S : Lk} (h : RI nx a S) {o : HOper} (hg : o.guard ≠ none) {e : HV × List Upd} : RI nx (roStep a o) (apS o e S) :=
  h.step e (fun h => absurd h hg) (fun h => absurd h hg) (fun h => absurd h hg)
theorem RI.exec {nx : Nat} {a : RS} {S M : Lk} {fr : Nat} (h : RI nx a S) {o : HOper} : RI nx (roStep a o) (apS o ((topv M fr (o.op.map (evL S))).1, (topv M fr (o.op.map (evL S))).2.1) S) :=
  h.step _ (fun _ hq => (quiet_top h hq M fr).2.1) (fun _ hq => keepsT_top h hq M fr) (fun _ hq => keepsO_top h hq M fr)
/-- What is known of what an operation has touched. -/
def Told (nx : Nat) (a : RS) (o : HOper) (i : Nat) (t ids : List Nat) : Prop :=
  (quiet a o = true → t = [] ∧ ids = []) ∧ (loadOld a o = true → t = [] ∧ ∀ x ∈ ids, x < nx) ∧ (freshW a o = true → (∀ x ∈ t, rng nx i x) ∧ ids = [])

theorem hops_drR {P : Program} {D : FuncId → List HV → HV → Prop} {ops : List HOper} {masks : List Nat} {nx : Nat} {K : St → Prop} {a0 : RS} (hlit : ∀ (i : Nat) (o : HOper), ops[i]? = some o → litOK o = true) (hns : noSuspR masks ops a0 = true) : ∀ (rest : List HOper) (i : Nat) (log : DLog) (s : St), ops.drop i = rest → s.nx = nx → (∀ q ∈ log, q.1 < i) → (∀ q ∈ log, ∀ o, ops[q.1]? = some o → Told nx (roAt ops a0 q.1) o q.1 q.2.1 q.2.2) → RI nx (roAt ops a0 i) s.S → Inv nx (fun k => k < i) s.S s.M → (∀ q ∈ log, ∀ x ∈ q.2.2, okX nx (fun k => k < q.1) x) → hops (CS P D) ops rest i K s →
    dr (HT P) D ops masks nx (fun S M => ∃ s' : St, s'.S = S ∧ s'.M = M ∧ s'.nx = nx ∧ K s') (List.range' i rest.length) log s.S s.M := by
  intro rest
  induction rest with
  | nil => intro i log s _ hnx _ _ _ _ _ h; exact ⟨s, rfl, rfl, hnx, h⟩
  | cons o rest ih =>
    intro i log s hdrop hnx hlog hlq hRI hI hlb h
    have hoi : ops[i]? = some o := by
      have := congrArg (fun l : List HOper => l[0]?) hdrop
      simpa using this
    have hdrop' : ops.drop (i + 1) = rest := by
      have := congrArg (List.drop 1) hdrop
      simpa [List.drop_drop, Nat.add_comm] using this
    simp only [List.length_cons, List.range'_succ]
    have hil := (List.getElem?_eq_some_iff.1 hoi).1
    have ck : ∀ e : HV × List Upd, Told nx (roAt ops a0 i) o i (tgts e.2) (opids o s.S) → ∀ q ∈ log, chk masks ops i o e s.S q := by
      intro e he q hq b1 _ o' ho' hs
      have hlt := hlog q hq
      have hl := hlq q hq o' ho'
      simp only [noSuspR, List.all_eq_true, List.mem_range, Bool.or_eq_true] at hns
      have h := hns i hil q.1 hlt
      rw [ho', hoi] at h
      simp only [Bool.or_eq_true, Bool.not_eq_true', Bool.and_eq_true] at h
      rcases h with h | (((h | h) | h) | h) | h
      · rw [b1] at h; cases h
      · rw [h] at hs; cases hs
      · obtain ⟨p1, p2⟩ := hl.1 h
        rw [p1, p2]; simp
      · obtain ⟨p1, p2⟩ := he.1 h
        rw [p1, p2]; simp
      · obtain ⟨p3, p4⟩ := he.2.2 h
        refine ⟨fun x hx hx' => ?_, fun x _ hx' => by rw [p4] at hx'; cases hx'⟩
        have h3 := p3 x hx
        have h4 := hlb q hq x hx'
        rcases h4 with h4 | ⟨k, h4, h5⟩
        · unfold rng at h3; omega
        · have : k + 1 ≤ i := by omega
          have := Nat.mul_le_mul_left stride this
          unfold rng at h3 h5
          omega
      · obtain ⟨p1, p2⟩ := hl.2.2 h.1
        obtain ⟨p3, p4⟩ := he.2.1 h.2
        refine ⟨fun x hx => (by rw [p3] at hx; cases hx), fun x hx hx' => ?_⟩
        have := p1 x hx
        have := p4 x hx'
        unfold rng at *
        omega
    have hacc : roAt ops a0 (i + 1) = roStep (roAt ops a0 i) o := by
      unfold roAt
      rw [List.take_succ_eq_append_getElem hil, List.foldl_append]
      have : ops[i] = o := by rw [List.getElem?_eq_getElem hil] at hoi; exact Option.some.inj hoi
      rw [this]; rfl
    have hent : ∀ us : List Upd, Told nx (roAt ops a0 i) o i (tgts us) (opids o s.S) → ∀ q ∈ (i, tgts us, opids o s.S) :: log, ∀ o', ops[q.1]? = some o' → Told nx (roAt ops a0 q.1) o' q.1 q.2.1 q.2.2 := by
      intro us hus q hq o' ho'
      rcases List.mem_cons.1 hq with rfl | hq
      · rw [hoi] at ho'
        cases ho'
        exact hus
      · exact hlq q hq o' ho'
    have tskip : Told nx (roAt ops a0 i) o i (tgts []) (opids o s.S) := ⟨fun h => ⟨rfl, quiet_ids hRI h⟩, fun h => ⟨rfl, (loadOld_top hRI h s.M 0).2⟩, fun h => ⟨by simp [tgts], (freshW_top hRI h s.M 0).2⟩⟩
    have stepS : ∀ (us : List Upd) (v : HV), ((s.upd us).put o.dst v).S = apS o (v, us) s.S := fun us v => by rw [St.put_S, St.upd_S]; rfl
    have stepM : ∀ (us : List Upd) (v : HV), ((s.upd us).put o.dst v).M = apM (v, us) s.M := fun us v => by rw [St.put_M, St.upd_M]; rfl
    have hids : ∀ x ∈ opids o s.S, okX nx (fun k => k < i) x := fun x hx => innL_iff.1 (vals_inn hI (hlit i o hoi)) x hx
    have inv : ∀ e, dside (HT P) D ops (nx + stride * i) o s.S s.M → dres D ops (nx + stride * i) o s.S s.M e → Inv nx (fun k => k < i + 1) (apS o e s.S) (apM e s.M) := fun e hs hre => by
      obtain ⟨f1, f2, _, _⟩ := dres_ok hI (hlit i o hoi) hs hre
      have h1 := hI.step (o := o) f1 f2
      have h2 : (fun k => k < i ∨ k = i) = (fun k => k < i + 1) := by funext k; exact propext ⟨fun h => by omega, fun h => by omega⟩
      rw [h2] at h1
      exact h1
    have next : ∀ (us : List Upd) (v : HV) ent, ent.1 = i → ent.2.2 = opids o s.S → (∀ q ∈ ent :: log, ∀ o', ops[q.1]? = some o' → Told nx (roAt ops a0 q.1) o' q.1 q.2.1 q.2.2) → RI nx (roAt ops a0 (i + 1)) ((s.upd us).put o.dst v).S → Inv nx (fun k => k < i + 1) (apS o (v, us) s.S) (apM (v, us) s.M) → hops (CS P D) ops rest (i + 1) K ((s.upd us).put o.dst v) → dr (HT P) D ops masks nx (fun S M => ∃ s' : St, s'.S = S ∧ s'.M = M ∧ s'.nx = nx ∧ K s') (List.range' (i + 1) rest.length) (ent :: log) (apS o (v, us) s.S) (apM (v, us) s.M) := by
      intro us v ent he he2 hent hri hI' h'
      have := ih (i + 1) (ent :: log) ((s.upd us).put o.dst v) hdrop' (by rw [St.put_nx, St.upd_nx]; exact hnx) (fun q hq => by
        rcases List.mem_cons.1 hq with rfl | hq
        · omega
        · have := hlog q hq; omega) hent hri (by rw [stepS, stepM]; exact hI') (fun q hq x hx => by
        rcases List.mem_cons.1 hq with rfl | hq
        · rw [he2] at hx; rw [he]; exact hids x hx
        · exact hlb q hq x hx) h'
      rw [stepS, stepM] at this
      exact this
    have hstr : s.nx + stride * (i + 1) = nx + stride * i + stride := by rw [hnx]; unfold stride; omega
    have run : gd ops o s.S = some true → hop (CS P D) s i o (hops (CS P D) ops rest (i + 1) K) → ∃ o', ops[i]? = some o' ∧ dside (HT P) D ops (nx + stride * i) o' s.S s.M ∧ (∃ e, dres D ops (nx + stride * i) o' s.S s.M e) ∧ ∀ e, dres D ops (nx + stride * i) o' s.S s.M e → (∀ q ∈ log, chk masks ops i o' e s.S q) ∧ dr (HT P) D ops masks nx (fun S M => ∃ s' : St, s'.S = S ∧ s'.M = M ∧ s'.nx = nx ∧ K s') (List.range' (i + 1) rest.length) ((i, tgts e.2, opids o' s.S) :: log) (apS o' e s.S) (apM e s.M) := by
      intro hg hh
      refine ⟨o, hoi, ?_⟩
      unfold dside dres
      rw [hg]
      simp only
      have hM : (fun i => aget i s.st) = s.M := rfl
      replace hh := hh.resolve_right (fun h => h)
      unfold hop0 at hh
      rw [ev_evL, hM, hstr, hnx] at hh
      have callc : ∀ (f : FuncId) (args xs : List HV), (∀ t ids, Told nx (roAt ops a0 i) o i t ids) ∧ (quiet (roAt ops a0 i) o = false ∧ keepsT (roAt ops a0 i) o = false ∧ keepsO (roAt ops a0 i) o = false) → ((HT P f args (D f args) ∧ ∀ r, D f args r → r.deep = [] → (refFreeL xs || r.noRd) = true ∧ (unpack (nx + stride * i) r).2.2 ≤ nx + stride * i + stride) → dside (HT P) D ops (nx + stride * i) o s.S s.M) → (∀ e : HV × List Upd, (∃ r, D f args r ∧ r.deep = [] ∧ e = ((unpack (nx + stride * i) r).1, (unpack (nx + stride * i) r).2.1)) → dres D ops (nx + stride * i) o s.S s.M e) → (CS P D f args fun r => (refFreeL xs || r.noRd) = true ∧ (unpack (nx + stride * i) r).2.2 ≤ nx + stride * i + stride ∧ hops (CS P D) ops rest (i + 1) K ((s.upd (unpack (nx + stride * i) r).2.1).put o.dst (unpack (nx + stride * i) r).1)) →
          (HT P f args (D f args) ∧ ∀ r, D f args r → r.deep = [] → (refFreeL xs || r.noRd) = true ∧ (unpack (nx + stride * i) r).2.2 ≤ nx + stride * i + stride) ∧ (∃ e : HV × List Upd, ∃ r, D f args r ∧ r.deep = [] ∧ e = ((unpack (nx + stride * i) r).1, (unpack (nx + stride * i) r).2.1)) ∧
          ∀ e : HV × List Upd, (∃ r, D f args r ∧ r.deep = [] ∧ e = ((unpack (nx + stride * i) r).1, (unpack (nx + stride * i) r).2.1)) → (∀ q ∈ log, chk masks ops i o e s.S q) ∧ dr (HT P) D ops masks nx (fun S M => ∃ s' : St, s'.S = S ∧ s'.M = M ∧ s'.nx = nx ∧ K s') (List.range' (i + 1) rest.length) ((i, tgts e.2, opids o s.S) :: log) (apS o e s.S) (apM e s.M) := by
        rintro f args xs hnq hf1 hf2 ⟨c1, ⟨r0, c2, c3⟩, c4⟩
        have hsd : HT P f args (D f args) ∧ ∀ r, D f args r → r.deep = [] → (refFreeL xs || r.noRd) = true ∧ (unpack (nx + stride * i) r).2.2 ≤ nx + stride * i + stride := ⟨c1, fun r a b => ⟨(c4 r a b).1, (c4 r a b).2.1⟩⟩
        refine ⟨hsd, ⟨_, r0, c2, c3, rfl⟩, ?_⟩
        rintro e ⟨r, d1, d2, rfl⟩
        exact ⟨ck _ (hnq.1 _ _), next _ _ _ rfl rfl (hent _ (hnq.1 _ _)) (by rw [hacc, stepS]; exact RI.loud hRI hnq.2 _) (inv _ (hf1 hsd) (hf2 _ ⟨r, d1, d2, rfl⟩)) (c4 r d1 d2).2.2⟩
      split at hh
      · rename_i f xs heq
        rw [heq]
        have hq := quiet_call (nx := nx) (a := roAt ops a0 i) (.inl ⟨f, xs, heq⟩)
        exact callc f _ xs ⟨fun t ids => ⟨(hq.1 t ids).1, (hq.1 t ids).2.1, fun h => ⟨((hq.1 t ids).2.2 h).1 i, ((hq.1 t ids).2.2 h).2⟩⟩, hq.2⟩ (fun h => by unfold dside; rw [hg]; simp only; rw [heq]; exact h) (fun e h => by unfold dres; rw [hg]; simp only; rw [heq]; exact h) hh
      · rename_i f cap xs heq
        rw [heq]
        have hq := quiet_call (nx := nx) (a := roAt ops a0 i) (.inr ⟨_, xs, heq⟩)
        exact callc f _ (xs ++ cap) ⟨fun t ids => ⟨(hq.1 t ids).1, (hq.1 t ids).2.1, fun h => ⟨((hq.1 t ids).2.2 h).1 i, ((hq.1 t ids).2.2 h).2⟩⟩, hq.2⟩ (fun h => by unfold dside; rw [hg]; simp only; rw [heq]; exact h) (fun e h => by unfold dres; rw [hg]; simp only; rw [heq]; exact h) hh
      · rename_i op h1 h2
        have e1 : cside (HT P) D s.M (nx + stride * i) (o.op.map (evL s.S)) = (topv s.M (nx + stride * i) (o.op.map (evL s.S))).2.2 := by
          unfold cside; split
          · rename_i f xs heq; exact absurd heq (h1 f xs)
          · rename_i f cap xs heq; exact absurd heq (h2 f cap xs)
          · rfl
        have e2 : ∀ e, cres D s.M (nx + stride * i) e (o.op.map (evL s.S)) = (e = ((topv s.M (nx + stride * i) (o.op.map (evL s.S))).1, (topv s.M (nx + stride * i) (o.op.map (evL s.S))).2.1)) := fun e => by
          unfold cres; split
          · rename_i f xs heq; exact absurd heq (h1 f xs)
          · rename_i f cap xs heq; exact absurd heq (h2 f cap xs)
          · rfl
        rw [e1]
        simp only [e2]
        refine ⟨hh.1, ⟨_, rfl⟩, ?_⟩
        rintro e rfl
        have hus : Told nx (roAt ops a0 i) o i (tgts (topv s.M (nx + stride * i) (o.op.map (evL s.S))).2.1) (opids o s.S) :=
          ⟨fun h => ⟨by rw [(quiet_top hRI h _ _).1]; rfl, quiet_ids hRI h⟩, fun h => ⟨by rw [(loadOld_top hRI h _ _).1]; rfl, (loadOld_top hRI h s.M 0).2⟩, fun h => ⟨by rw [(freshW_top hRI h _ _).1]; intro x hx; simp at hx; subst hx; unfold rng stride; omega, (freshW_top hRI h s.M 0).2⟩⟩
        exact ⟨ck _ hus, next _ _ _ rfl rfl (hent _ hus) (by rw [hacc, stepS]; exact RI.exec hRI) (inv _ (by unfold dside; rw [hg]; simp only; rw [e1]; exact hh.1) (by unfold dres; rw [hg]; simp only; rw [e2])) hh.2⟩
    simp only [hops] at h
    cases hg : o.guard with
    | none =>
      rw [hg] at h
      exact run (by unfold gd; rw [hg]) h
    | some jw =>
      obtain ⟨j, want⟩ := jw
      rw [hg] at h
      simp only at h
      cases hd : (ops[j]?).bind (·.dst) with
      | none => rw [hd] at h; exact h.elim
      | some d =>
        rw [hd] at h
        simp only [Option.map_some] at h
        generalize hv : aget d s.sl = v at h
        cases v with
        | bool b =>
          simp only at h
          have hv' : s.S d = .bool b := hv
          have hgd : gd ops o s.S = some (b == want) := by unfold gd; rw [hg]; simp only [hd, Option.map_some, hv']
          by_cases hbw : b = want
          · exact run (by rw [hgd]; simp [hbw]) (h.1 hbw)
          · refine ⟨o, hoi, ?_⟩
            have : (b == want) = false := by simpa using hbw
            unfold dside dres
            rw [hgd, this]
            simp only
            refine ⟨trivial, ⟨_, rfl⟩, ?_⟩
            rintro e rfl
            exact ⟨ck _ tskip, next [] (.tup []) _ rfl rfl (hent [] tskip) (by rw [hacc, stepS]; exact RI.skip hRI (by rw [hg]; simp)) (inv _ (by unfold dside; rw [hgd, this]; trivial) (by unfold dres; rw [hgd, this])) (h.2 hbw)⟩
        | tup cs =>
          cases cs with
          | cons _ _ => exact h.elim
          | nil =>
            simp only at h
            have hv' : s.S d = .tup [] := hv
            have hgd : gd ops o s.S = some false := by unfold gd; rw [hg]; simp only [hd, Option.map_some, hv']
            refine ⟨o, hoi, ?_⟩
            unfold dside dres
            rw [hgd]
            simp only
            refine ⟨trivial, ⟨_, rfl⟩, ?_⟩
            rintro e rfl
            exact ⟨ck _ tskip, next [] (.tup []) _ rfl rfl (hent [] tskip) (by rw [hacc, stepS]; exact RI.skip hRI (by rw [hg]; simp)) (inv _ (by unfold dside; rw [hgd]; trivial) (by unfold dres; rw [hgd])) h⟩
        | _ => exact h.elim

/-- A region whose last operations come in one order, behind all others; of the others some only read what nothing writes. -/
theorem hx_splitR {P : Program} {k : List HI} {Q : HE → St → Prop} {s : St} {ops : List HOper} {masks : List Nat} (n : Nat) (ro0 old0 : List Nat) (h1 : statOK masks ops = true) (hs : splitOK masks ops n = true) (h2 : noSuspR masks (ops.take n) (ro0, ro0 ++ old0, old0) = true) (D : FuncId → List HV → HV → Prop) (h0 : ∀ t ∈ ro0, (aget t s.sl).deep = [] ∧ aget t s.sl ≠ .nils) (h00 : ∀ t ∈ old0, (∀ x ∈ (aget t s.sl).deep, x < s.nx) ∧ aget t s.sl ≠ .nils)
    (h : hx P (.o (CS P D) (ops.take n) (ops.take n) 0 :: .c (.region none (ops.drop n)) :: k) Q s) : hx P (.c (.region (some masks) ops) :: k) Q s := by
  refine hx_mk (Weak.refl s) ?_
  refine ⟨h1, fun hI => .inr ⟨n, D, hs, ?_⟩⟩
  have hlit : ∀ i o, (ops.take n)[i]? = some o → litOK o = true := fun i o ho => by
    have hi : i < n := by
      have := (List.getElem?_eq_some_iff.1 ho).1
      rw [List.length_take] at this; omega
    rw [List.getElem?_take_of_lt hi] at ho
    exact (statOK_at h1 ho).2.1
  have hI0 : Inv s.nx (fun k => k < 0) s.S s.M := by
    have : (fun k : Nat => k < 0) = fun _ => False := by funext k; exact propext ⟨fun h => by omega, fun h => h.elim⟩
    rw [this]; exact hI
  have hRI : RI s.nx (roAt (ops.take n) (ro0, ro0 ++ old0, old0) 0) s.S := by
    refine ⟨fun t ht x hx => ?_, fun t ht => ?_, fun t ht => (h00 t ht).1⟩
    · have h3 := (h0 t ht).1
      have h4 : s.S t = aget t s.sl := rfl
      rw [h4, h3] at hx
      cases hx
    · rcases List.mem_append.1 ht with ht | ht
      · exact (h0 t ht).2
      · exact (h00 t ht).2
  have hn : n ≤ ops.length := by
    simp only [splitOK, Bool.and_eq_true, decide_eq_true_eq] at hs
    exact hs.1.1
  unfold hx at h
  have := hops_drR hlit h2 (ops.take n) 0 [] s rfl rfl (by simp) (by simp) hRI hI0 (by simp) h
  rw [List.length_take, Nat.min_eq_left hn, ← List.range_eq_range'] at this
  refine dr_mono ?_ this
  rintro S M ⟨s', a, b, c, s2, d, e⟩
  exact ⟨s', s2, a, b, c, d, e⟩

end Go.HL
