/-
  OWN WORK. Several small texts in one.
-/
import Derived.Test.YtkhbiknjkffpjaaClClsd
import Derived.Test.YtkhbiknjkffpjaaHl5
section
set_option linter.unusedSimpArgs false
set_option linter.unusedVariables false
namespace Go.Proofs.Ytkhbiknjkffpjaa

def unm (out : List Bool) : Nat := (out.filter (!·)).length
theorem unm_le (out : List Bool) : unm out ≤ out.length := List.length_filter_le _ _
theorem unm_set : ∀ (out : List Bool) (i : Nat), i < out.length → out.getD i false = false → unm (out.set i true) + 1 = unm out
  | [], _, h, _ => absurd h (Nat.not_lt_zero _)
  | b :: out, 0, _, h => by
    have hb : b = false := by simpa using h
    subst hb
    simp [unm]
  | b :: out, i + 1, h, h2 => by
    have ih := unm_set out i (by simpa using h) (by simpa using h2)
    unfold unm at ih ⊢
    cases b <;> simp only [List.set_cons_succ, List.filter_cons, Bool.not_false, Bool.not_true, Bool.false_eq_true, if_true, if_false, List.length_cons] <;> omega
theorem getD_setT (out : List Bool) (i u : Nat) (hi : i < out.length) : (out.set i true).getD u false = if i = u then true else out.getD u false := by
  simp only [List.getD_eq_getElem?_getD, List.getElem?_set]
  split
  · rename_i h; subst h; simp [hi]
  · rfl
def ClosedX (g : List (List Int)) (X : List Bool) : Prop := ∀ u, X.getD u false = true → ∀ j ∈ g.getD u [], X.getD j.toNat false = true
def Sub (A B : List Bool) : Prop := ∀ u : Nat, A.getD u false = true → B.getD u false = true
structure IsHull (g : List (List Int)) (set out : List Bool) : Prop where
  len : out.length = set.length
  sup : Sub set out
  closed : ClosedX g out
  least : ∀ X, ClosedX g X → Sub set X → Sub out X
theorem IsHull.unique {g : List (List Int)} {set a b : List Bool} (ha : IsHull g set a) (hb : IsHull g set b) : a = b := by
  apply List.ext_getElem
  · rw [ha.len, hb.len]
  · intro i h1 h2
    have e1 : a.getD i false = a[i] := by simp [h1]
    have e2 : b.getD i false = b[i] := by simp [h2]
    rw [← e1, ← e2]
    have h3 := ha.least b hb.closed hb.sup i
    have h4 := hb.least a ha.closed ha.sup i
    cases hx : a.getD i false with
    | true => rw [h3 hx]
    | false =>
      cases hy : b.getD i false with
      | false => rfl
      | true => rw [h4 hy] at hx; cases hx
/-- The search for the hull, under way. -/
structure HInv (g : List (List Int)) (set : List Bool) (m : Nat) (ex : Nat → Prop) (out : List Bool) (l : List Nat) : Prop where
  len : out.length = set.length
  sup : ∀ u, u < m → set.getD u false = true → out.getD u false = true
  inl : ∀ u ∈ l, u < set.length ∧ out.getD u false = true
  ok : ∀ u, out.getD u false = true → u ∉ l → ¬ ex u → ∀ j ∈ g.getD u [], out.getD j.toNat false = true
  least : ∀ X, ClosedX g X → Sub set X → Sub out X
  few : 2 * unm out + l.length ≤ 2 * set.length
section
variable {g : List (List Int)} {set out : List Bool} {l : List Nat} {m i p : Nat} {ex : Nat → Prop}
theorem HInv.init (g : List (List Int)) (set : List Bool) : HInv g set 0 (fun _ => False) (List.replicate set.length false) [] := by
  have hf : ∀ u : Nat, (List.replicate set.length false).getD u false = false := fun u => by
    rw [List.getD_eq_getElem?_getD, List.getElem?_replicate]; split <;> rfl
  refine ⟨by simp, fun u hu => absurd hu (Nat.not_lt_zero _), by simp, fun u hu => ?_, fun X _ _ u hu => ?_, ?_⟩
  · rw [hf] at hu; cases hu
  · rw [hf] at hu; cases hu
  · have := unm_le (List.replicate set.length false)
    simp at this ⊢
    omega
theorem HInv.visit (h : HInv g set m ex out l) (hi : i < set.length) (hu : out.getD i false = false) (hx : ∀ X, ClosedX g X → Sub set X → X.getD i false = true) : HInv g set m ex (out.set i true) (l ++ [i]) := by
  have hio : i < out.length := by rw [h.len]; exact hi
  have hg : ∀ u : Nat, (out.set i true).getD u false = if i = u then true else out.getD u false := fun u => getD_setT out i u hio
  have up : ∀ u : Nat, out.getD u false = true → (out.set i true).getD u false = true := fun u hu => by
    rw [hg]; split
    · rfl
    · exact hu
  refine ⟨by simp [h.len], fun u h1 h2 => up u (h.sup u h1 h2), fun u hul => ?_, fun u h1 h2 h3 j hj => ?_, fun X h1 h2 u h3 => ?_, ?_⟩
  · rcases List.mem_append.1 hul with h1 | h1
    · exact ⟨(h.inl u h1).1, up u (h.inl u h1).2⟩
    · obtain rfl : u = i := by simpa using h1
      exact ⟨hi, by rw [hg]; simp⟩
  · simp only [List.mem_append, List.mem_singleton, not_or] at h2
    rw [hg, if_neg (fun e => h2.2 e.symm)] at h1
    exact up _ (h.ok u h1 h2.1 h3 j hj)
  · rw [hg] at h3
    split at h3
    · rename_i e; rw [← e]; exact hx X h1 h2
    · exact h.least X h1 h2 u h3
  · have := unm_set out i hio hu
    have := h.few
    rw [List.length_append]
    simp only [List.length_cons, List.length_nil]
    omega
theorem HInv.pop (h : HInv g set m (fun _ => False) out (l ++ [p])) : HInv g set m (fun u => u = p) out l ∧ p < set.length ∧ out.getD p false = true := by
  have hp := h.inl p (by simp)
  refine ⟨⟨h.len, h.sup, fun u hu => h.inl u (by simp [hu]), fun u h1 h2 h3 => h.ok u h1 (by simp [h2, h3]) (fun h => h), h.least, ?_⟩, hp⟩
  have := h.few
  rw [List.length_append] at this
  omega
theorem HInv.done (h : HInv g set m (fun u => u = p) out l) (hr : ∀ j ∈ g.getD p [], out.getD j.toNat false = true) : HInv g set m (fun _ => False) out l :=
  ⟨h.len, h.sup, h.inl, fun u h1 h2 _ => by
    by_cases e : u = p
    · subst e; exact hr
    · exact h.ok u h1 h2 e, h.least, h.few⟩
theorem HInv.next (h : HInv g set m ex out l) (hm : set.getD m false = true → out.getD m false = true) : HInv g set (m + 1) ex out l :=
  ⟨h.len, fun u h1 h2 => by
    by_cases e : u = m
    · subst e; exact hm h2
    · exact h.sup u (by omega) h2, h.inl, h.ok, h.least, h.few⟩
theorem HInv.hull (h : HInv g set set.length (fun _ => False) out []) : IsHull g set out :=
  ⟨h.len, fun u hu => by
    by_cases e : u < set.length
    · exact h.sup u e hu
    · exact absurd hu (by rw [List.getD_eq_getElem?_getD, List.getElem?_eq_none (by omega)]; simp), fun u hu j hj => h.ok u hu (by simp) (fun h => h) j hj, h.least⟩
end

/-- The sweeps of the reference. -/
structure Swp (g : List (List Int)) (set out : List Bool) : Prop where
  len : out.length = set.length
  sup : Sub set out
  least : ∀ X, ClosedX g X → Sub set X → Sub out X
section
variable {g : List (List Int)} {set out : List Bool} {i j : Nat}
theorem Swp.init : Swp g set set := ⟨rfl, fun _ h => h, fun _ _ h => h⟩
theorem Swp.hull (h : Swp g set out) (hc : ClosedX g out) : IsHull g set out := ⟨h.len, h.sup, hc, h.least⟩
end

end Go.Proofs.Ytkhbiknjkffpjaa
end
section
/-
  OWN WORK. Drawn orders in which some operations only read what nothing writes.
-/
set_option linter.unusedSimpArgs false
set_option linter.unusedVariables false
namespace Go.HL
set_option linter.unnecessarySimpa false
open Go.RowKit

/-- Drawn orders in which some operations only read what nothing writes. -/
def inT (l : List Nat) : HX → Bool
  | .t i => l.contains i
  | .c _ => false
def inSl (l : List Nat) : HX → Bool
  | .t i => l.contains i
  | .c v => v.deep.isEmpty
abbrev RS := List Nat × List Nat × List Nat
def quiet (a : RS) (o : HOper) : Bool := match o.op with
  | .mv 0 x => inSl a.1 x
  | .mv (_ + 1) x => inT a.2.1 x && inT a.1 x
  | .iaddr _ x y => inSl a.1 x && inSl a.1 y
  | .load false _ x => inSl a.1 x
  | .len x => inSl a.1 x
  | .bin _ x y => inSl a.1 x && inSl a.1 y
  | _ => false
def keepsT (a : RS) (o : HOper) : Bool := match o.op with
  | .mv _ x => inT a.2.1 x
  | _ => false
def without (l : List Nat) : Option Nat → List Nat
  | some t => l.filter (· != t)
  | none => l
def keepsO (a : RS) (o : HOper) : Bool := match o.op with
  | .mv 0 x => inT a.2.2 x
  | .mv (_ + 1) x => inT a.2.2 x && inT a.2.1 x
  | .iaddr _ x _ => inT a.2.2 x
  | _ => false
def more (c : Bool) (t : Nat) (l : List Nat) : List Nat := if c then t :: l else l
def roStep (a : RS) (o : HOper) : RS := match o.guard, o.dst with
  | none, some t => (more (quiet a o) t (without a.1 o.dst), more (keepsT a o) t (without a.2.1 o.dst), more (keepsO a o) t (without a.2.2 o.dst))
  | _, _ => (without a.1 o.dst, without a.2.1 o.dst, without a.2.2 o.dst)
def F0 : Nat → Prop := fun _ => False
structure RI (nx : Nat) (a : RS) (S : Lk) : Prop where
  ro : ∀ t ∈ a.1, (S t).inn F0
  nn : ∀ t ∈ a.2.1, S t ≠ .nils
  old : ∀ t ∈ a.2.2, (S t).inn (· < nx)
theorem slU_inn0 {us : List Upd} : ∀ {S : Lk} {t : Nat}, (S t).inn F0 → (slU S us t).inn F0 := by
  induction us with
  | nil => intro S t h; exact h
  | cons u r ih => intro S t h; cases u with
    | put => exact ih h
    | kill id len => exact ih (S := fun t => (S t).kill id len) (kill_inn id len _ h)
theorem kill_nn {v : HV} (h : v ≠ .nils) (id len : Nat) : v.kill id len ≠ .nils := by
  cases v <;> simp_all [HV.kill] <;> split <;> simp
theorem slU_nn {us : List Upd} : ∀ {S : Lk} {t : Nat}, S t ≠ .nils → slU S us t ≠ .nils := by
  induction us with
  | nil => intro S t h; exact h
  | cons u r ih => intro S t h; cases u with
    | put => exact ih h
    | kill id len => exact ih (S := fun t => (S t).kill id len) (kill_nn h id len)
theorem mem_without {l : List Nat} {d : Option Nat} {t : Nat} (h : t ∈ without l d) : t ∈ l ∧ d ≠ some t := by
  cases d with
  | none => exact ⟨h, by simp⟩
  | some k =>
    simp only [without, List.mem_filter, bne_iff_ne, ne_eq] at h
    exact ⟨h.1, fun e => h.2 (by cases e; rfl)⟩
theorem slU_innP {p : Nat → Prop} {us : List Upd} : ∀ {S : Lk} {t : Nat}, (S t).inn p → (slU S us t).inn p := by
  induction us with
  | nil => intro S t h; exact h
  | cons u r ih => intro S t h; cases u with
    | put => exact ih h
    | kill id len => exact ih (S := fun t => (S t).kill id len) (kill_inn id len _ h)
theorem RI.rest {nx : Nat} {a : RS} {S : Lk} (h : RI nx a S) {o : HOper} (e : HV × List Upd) : RI nx (without a.1 o.dst, without a.2.1 o.dst, without a.2.2 o.dst) (apS o e S) := by
  refine ⟨fun t ht => ?_, fun t ht => ?_, fun t ht => ?_⟩
  · obtain ⟨h1, h2⟩ := mem_without ht
    simp only [apS, if_neg h2]
    exact slU_inn0 (h.ro t h1)
  · obtain ⟨h1, h2⟩ := mem_without ht
    simp only [apS, if_neg h2]
    exact slU_nn (h.nn t h1)
  · obtain ⟨h1, h2⟩ := mem_without ht
    simp only [apS, if_neg h2]
    exact slU_innP (h.old t h1)
theorem mem_more {c : Bool} {t u : Nat} {l : List Nat} (h : u ∈ more c t l) : (c = true ∧ u = t) ∨ u ∈ l := by
  unfold more at h
  split at h
  · rename_i hc
    rcases List.mem_cons.1 h with h | h
    · exact .inl ⟨hc, h⟩
    · exact .inr h
  · exact .inr h
theorem RI.step {nx : Nat} {a : RS} {S : Lk} (h : RI nx a S) {o : HOper} (e : HV × List Upd) (h1 : o.guard = none → quiet a o = true → e.1.inn F0) (h2 : o.guard = none → keepsT a o = true → e.1 ≠ .nils) (h3 : o.guard = none → keepsO a o = true → e.1.inn (· < nx)) : RI nx (roStep a o) (apS o e S) := by
  have hr := h.rest (o := o) e
  unfold roStep
  split
  · rename_i t hg hd
    refine ⟨fun u hu => ?_, fun u hu => ?_, fun u hu => ?_⟩
    · rcases mem_more hu with ⟨hc, rfl⟩ | hu
      · simp only [apS, hd, if_true]; exact h1 hg hc
      · exact hr.ro u hu
    · rcases mem_more hu with ⟨hc, rfl⟩ | hu
      · simp only [apS, hd, if_true]; exact h2 hg hc
      · exact hr.nn u hu
    · rcases mem_more hu with ⟨hc, rfl⟩ | hu
      · simp only [apS, hd, if_true]; exact h3 hg hc
      · exact hr.old u hu
  · exact hr
theorem RI.skip {nx : Nat} {a : RS} {S : Lk} (h : RI nx a S) {o : HOper} (hg : o.guard ≠ none) {e : HV × List Upd} : RI nx (roStep a o) (apS o e S) :=
  h.step e (fun h => absurd h hg) (fun h => absurd h hg) (fun h => absurd h hg)
end Go.HL
end
