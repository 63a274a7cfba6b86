/-
  OWN WORK. Several small texts in one.
-/
import Derived.Test.YtkhbiknjkffpjaaProg
import Derived.Test.YtkhbiknjkffpjaaSlOps
section
set_option linter.unusedSimpArgs false
set_option linter.unusedVariables false
namespace Go.Proofs.Ytkhbiknjkffpjaa
open Go.RowKit Go.SL

theorem T.ints : SliceT Try.prog 22 3 [.int .i64 0] 8 := SliceT.mk' (.int .i64 0) 1 Try.underlying22 (by kernel_rfl) rfl rfl
theorem T.bools : SliceT Try.prog 24 4 [.bool false] 1 := SliceT.mk' (.bool false) 1 Try.underlying24 (by kernel_rfl) rfl rfl

/-- Numbers as cells. -/
abbrev ints (l : List Int) : List Value := l.map (Value.int .i64)
abbrev bools (l : List Bool) : List Value := l.map Value.bool
end Go.Proofs.Ytkhbiknjkffpjaa
end
section
set_option linter.unusedSimpArgs false
set_option linter.unusedVariables false
namespace Go.Proofs.Ytkhbiknjkffpjaa
open Go.RowKit Go.SL

structure Edge where
  f : Int
  t : Int
  c : Int
  deriving DecidableEq, Inhabited

def ecell (e : Edge) : List Value := [.int .i64 e.f, .int .i64 e.t, .int .i64 e.c]
def ecells (l : List Edge) : List Value := (l.map ecell).flatten

theorem ecells_cons (e : Edge) (l : List Edge) : ecells (e :: l) = ecell e ++ ecells l := rfl
theorem ecells_length (l : List Edge) : (ecells l).length = l.length * 3 := by
  induction l with
  | nil => rfl
  | cons e l ih => rw [ecells_cons, List.length_append, ih]; simp [ecell]; omega

theorem ecells_get (l : List Edge) : ∀ (k : Nat) (h : k < l.length), (ecells l)[k * 3]? = some (.int .i64 l[k].f) ∧ (ecells l)[k * 3 + 1]? = some (.int .i64 l[k].t) ∧ (ecells l)[k * 3 + 2]? = some (.int .i64 l[k].c) := by
  induction l with
  | nil => intro k h; simp at h
  | cons e l ih =>
    intro k h
    cases k with
    | zero => simp [ecells_cons, ecell]
    | succ k =>
      have := ih k (by simpa using h)
      have e1 : (k + 1) * 3 = k * 3 + 3 := by omega
      rw [e1, ecells_cons]
      have hl : (ecell e).length = 3 := rfl
      rw [List.getElem?_append_right (by omega), List.getElem?_append_right (by omega), List.getElem?_append_right (by omega)]
      simpa [hl, Nat.add_sub_cancel, show k * 3 + 3 + 1 - 3 = k * 3 + 1 by omega, show k * 3 + 3 + 2 - 3 = k * 3 + 2 by omega] using this

theorem T.edges : SliceT Try.prog 35 67 [.int .i64 0, .int .i64 0, .int .i64 0] 24 := SliceT.mk' (.agg #[.int .i64 0, .int .i64 0, .int .i64 0]) 3 Try.underlying35 (by kernel_rfl) rfl rfl

/-- An edge that is valid for n nodes. -/
def VEdge (n : Int) (e : Edge) : Prop := 0 ≤ e.f ∧ e.f < n ∧ 0 ≤ e.t ∧ e.t < n ∧ e.f ≠ e.t ∧ 0 ≤ e.c ∧ e.c ≤ 1099511627776
/-- A valid network. -/
structure VNet (n s t : Int) (es : List Edge) : Prop where
  n2 : 2 ≤ n
  n258 : n ≤ 258
  s0 : 0 ≤ s
  sn : s < n
  t0 : 0 ≤ t
  tn : t < n
  st : s ≠ t
  len : es.length ≤ 65536
  all : ∀ e ∈ es, VEdge n e

end Go.Proofs.Ytkhbiknjkffpjaa
end
