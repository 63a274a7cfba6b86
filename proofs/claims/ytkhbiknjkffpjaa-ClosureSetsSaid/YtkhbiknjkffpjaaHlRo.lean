
import Derived.Test.YtkhbiknjkffpjaaHl5
/-
  OWN WORK. Drawn orders in which some operations only read what nothing writes.
-/
set_option linter.unusedSimpArgs false
set_option linter.unusedVariables false
namespace Go.HL
set_option linter.unnecessarySimpa false
open Go.RowKit

/-- Drawn orders in which some operations only read what nothing writes. -/
def inT (l : List Nat) : HX → Bool
  | .t i => l.contains i
  | .c _ => false
def inSl (l : List Nat) : HX → Bool
  | .t i => l.contains i
  | .c v => v.deep.isEmpty
abbrev RS := List Nat × List Nat × List Nat
def quiet (a : RS) (o : HOper) : Bool := match o.op with
  | .mv 0 x => inSl a.1 x
  | .mv (_ + 1) x => inT a.2.1 x && inT a.1 x
  | .iaddr _ x y => inSl a.1 x && inSl a.1 y
  | .load false _ x => inSl a.1 x
  | .len x => inSl a.1 x
  | .bin _ x y => inSl a.1 x && inSl a.1 y
  | _ => false
def keepsT (a : RS) (o : HOper) : Bool := match o.op with
  | .mv _ x => inT a.2.1 x
  | _ => false
def without (l : List Nat) : Option Nat → List Nat
  | some t => l.filter (· != t)
  | none => l
def keepsO (a : RS) (o : HOper) : Bool := match o.op with
  | .mv 0 x => inT a.2.2 x
  | .mv (_ + 1) x => inT a.2.2 x && inT a.2.1 x
  | .iaddr _ x _ => inT a.2.2 x
  | _ => false
def more (c : Bool) (t : Nat) (l : List Nat) : List Nat := if c then t :: l else l
def roStep (a : RS) (o : HOper) : RS := match o.guard, o.dst with
  | none, some t => (more (quiet a o) t (without a.1 o.dst), more (keepsT a o) t (without a.2.1 o.dst), more (keepsO a o) t (without a.2.2 o.dst))
  | _, _ => (without a.1 o.dst, without a.2.1 o.dst, without a.2.2 o.dst)
def F0 : Nat → Prop := fun _ => False
structure RI (nx : Nat) (a : RS) (S : Lk) : Prop where
  ro : ∀ t ∈ a.1, (S t).inn F0
  nn : ∀ t ∈ a.2.1, S t ≠ .nils
  old : ∀ t ∈ a.2.2, (S t).inn (· < nx)
theorem slU_inn0 {us : List Upd} : ∀ {S : Lk} {t : Nat}, (S t).inn F0 → (slU S us t).inn F0 := by
  induction us with
  | nil => intro S t h; exact h
  | cons u r ih => intro S t h; cases u with
    | put => exact ih h
    | kill id len => exact ih (S := fun t => (S t).kill id len) (kill_inn id len _ h)
theorem kill_nn {v : HV} (h : v ≠ .nils) (id len : Nat) : v.kill id len ≠ .nils := by
  cases v <;> simp_all [HV.kill] <;> split <;> simp
theorem slU_nn {us : List Upd} : ∀ {S : Lk} {t : Nat}, S t ≠ .nils → slU S us t ≠ .nils := by
  induction us with
  | nil => intro S t h; exact h
  | cons u r ih => intro S t h; cases u with
    | put => exact ih h
    | kill id len => exact ih (S := fun t => (S t).kill id len) (kill_nn h id len)
theorem mem_without {l : List Nat} {d : Option Nat} {t : Nat} (h : t ∈ without l d) : t ∈ l ∧ d ≠ some t := by
  cases d with
  | none => exact ⟨h, by simp⟩
  | some k =>
    simp only [without, List.mem_filter, bne_iff_ne, ne_eq] at h
    exact ⟨h.1, fun e => h.2 (by cases e; rfl)⟩
theorem slU_innP {p : Nat → Prop} {us : List Upd} : ∀ {S : Lk} {t : Nat}, (S t).inn p → (slU S us t).inn p := by
  induction us with
  | nil => intro S t h; exact h
  | cons u r ih => intro S t h; cases u with
    | put => exact ih h
    | kill id len => exact ih (S := fun t => (S t).kill id len) (kill_inn id len _ h)
theorem RI.rest {nx : Nat} {a : RS} {S : Lk} (h : RI nx a S) {o : HOper} (e : HV × List Upd) : RI nx (without a.1 o.dst, without a.2.1 o.dst, without a.2.2 o.dst) (apS o e S) := by
  refine ⟨fun t ht => ?_, fun t ht => ?_, fun t ht => ?_⟩
  · obtain ⟨h1, h2⟩ := mem_without ht
    simp only [apS, if_neg h2]
    exact slU_inn0 (h.ro t h1)
  · obtain ⟨h1, h2⟩ := mem_without ht
    simp only [apS, if_neg h2]
    exact slU_nn (h.nn t h1)
  · obtain ⟨h1, h2⟩ := mem_without ht
    simp only [apS, if_neg h2]
    exact slU_innP (h.old t h1)
theorem mem_more {c : Bool} {t u : Nat} {l : List Nat} (h : u ∈ more c t l) : (c = true ∧ u = t) ∨ u ∈ l := by
  unfold more at h
  split at h
  · rename_i hc
    rcases List.mem_cons.1 h with h | h
    · exact .inl ⟨hc, h⟩
    · exact .inr h
  · exact .inr h
theorem RI.step {nx : Nat} {a : RS} {S : Lk} (h : RI nx a S) {o : HOper} (e : HV × List Upd) (h1 : o.guard = none → quiet a o = true → e.1.inn F0) (h2 : o.guard = none → keepsT a o = true → e.1 ≠ .nils) (h3 : o.guard = none → keepsO a o = true → e.1.inn (· < nx)) : RI nx (roStep a o) (apS o e S) := by
  have hr := h.rest (o := o) e
  unfold roStep
  split
  · rename_i t hg hd
    refine ⟨fun u hu => ?_, fun u hu => ?_, fun u hu => ?_⟩
    · rcases mem_more hu with ⟨hc, rfl⟩ | hu
      · simp only [apS, hd, if_true]; exact h1 hg hc
      · exact hr.ro u hu
    · rcases mem_more hu with ⟨hc, rfl⟩ | hu
      · simp only [apS, hd, if_true]; exact h2 hg hc
      · exact hr.nn u hu
    · rcases mem_more hu with ⟨hc, rfl⟩ | hu
      · simp only [apS, hd, if_true]; exact h3 hg hc
      · exact hr.old u hu
  · exact hr
theorem RI.skip {nx : Nat} {a : RS} {S : Lk} (h : RI nx a S) {o : HOper} (hg : o.guard ≠ none) {e : HV × List Upd} : RI nx (roStep a o) (apS o e S) :=
  h.step e (fun h => absurd h hg) (fun h => absurd h hg) (fun h => absurd h hg)
end Go.HL
