/-
  OWN WORK. Rows that are owned, and what the ranks' loops need.
-/
import Derived.Test.YtjlidhijnohkbaaGrV
set_option linter.unusedSimpArgs false
set_option linter.unusedVariables false
namespace Go.Proofs.Ytjlidhijnohkbaa
open Go.RowKit Go.HL

def rowsO (l : List (List Nat)) : List HV := l.map fun r => .osl 1 r.length (HL.ints (nl r))
theorem rowsO_len (l : List (List Nat)) : (rowsO l).length = l.length := by simp [rowsO]
theorem rowsO_get (l : List (List Nat)) {i : Nat} (h : i < l.length) : (rowsO l).getD i .dead = .osl 1 (l.getD i []).length (HL.ints (nl (l.getD i []))) := by simp [rowsO, h]
theorem rowsO_strip (l : List (List Nat)) : stripL (rowsO l) = rowsI (l.map nl) := by
  induction l with
  | nil => rfl
  | cons a l ih => unfold rowsO rowsI at ih ⊢; simp only [List.map_cons, stripL, HV.strip, HL.ints_strip, ih, nl_len]
theorem rowsO_set (l : List (List Nat)) (i : Nat) (x : List Nat) (v : HV) {m : Nat} (hm : m = x.length) : ((rowsO l).set i v).set i (.osl 1 m (HL.ints (nl x))) = rowsO (l.set i x) := by
  subst hm
  simp [rowsO, List.set_set, List.map_set]
theorem rowsO_mk (n : Nat) : (List.replicate n [HV.osl 1 0 []]).flatten = rowsO (List.replicate n []) := by
  induction n with
  | zero => rfl
  | succ n ih => rw [List.replicate_succ, List.flatten_cons, ih]; rfl
theorem rowsO_win (l : List (List Nat)) {n : Nat} (h : n = l.length) : win (rowsO l) 0 n = rowsO l := win_all _ (by rw [rowsO_len]; exact h)
theorem rowsO_snoc (l : List (List Nat)) (x : List Nat) {m : Nat} (hm : m = x.length) : rowsO l ++ [.osl 1 m (HL.ints (nl x))] = rowsO (l ++ [x]) := by subst hm; simp [rowsO]
attribute [go_sem] rowsO_get rowsO_len rowsO_win rowsO_mk

theorem usersL_zero (nd : List (List Nat)) : usersL nd 0 0 = List.replicate nd.length [] := by
  apply List.ext_getElem
  · simp [usersL]
  · intro j h1 h2; simp [usersL, usersAt, usersTo]
theorem usersL_of (nd : List (List Nat)) {j : Nat} (h : j < nd.length) : (usersL nd nd.length 0).getD j [] = usersOf nd j := by
  rw [usersL_get _ _ _ h]; simp [usersAt, usersOf]

/-- The first loop: what has been laid. -/
structure R0 (nd : List (List Nat)) (bad : List Bool) (i : Nat) (rank left : List Int) (now : List Nat) : Prop where
  lr : rank.length = nd.length
  ll : left.length = nd.length
  rank_ : ∀ u, u < i → rank.getD u 0 = -1
  left_ : ∀ u, u < i → left.getD u 0 = ((nd.getD u []).length : Int)
  now_ : now = firstTo nd bad i
theorem R0.step {nd : List (List Nat)} {bad : List Bool} {i : Nat} {rank left : List Int} {now : List Nat} (s : R0 nd bad i rank left now) (hi : i < nd.length) :
    R0 nd bad (i + 1) (rank.set i (-1)) (left.set i ((nd.getD i []).length : Int)) (now ++ if nd.getD i [] = [] ∧ bad.getD i false = false then [i] else []) := by
  refine ⟨by simpa using s.lr, by simpa using s.ll, fun u hu => ?_, fun u hu => ?_, by rw [firstTo_succ, s.now_]⟩
  · rw [getD_set _ _ _ _ _ (by rw [s.lr]; exact hi)]
    split
    · rfl
    · exact s.rank_ u (by omega)
  · rw [getD_set _ _ _ _ _ (by rw [s.ll]; exact hi)]
    split
    · rename_i h; subst h; rfl
    · exact s.left_ u (by omega)

end Go.Proofs.Ytjlidhijnohkbaa
