import Derived.Test.YteamkjblpglliaaAbW
set_option linter.unusedSimpArgs false
set_option linter.unusedVariables false
namespace Go.Proofs.Yteamkjblpglliaa
open Go.RowKit Go.SL Go.HL
section
variable (fr : Nat -> Bool)
def cJ (k : Nat) : List Nat := (List.range k).filter fr
theorem dm (k : Nat) : cJ fr (k + 1) = cJ fr k ++ if fr k then [k] else [] := by
 unfold cJ
 rw [List.range_succ, List.filter_append]
 cases h : fr k <;> simp [h]
theorem zh {k u : Nat} : u ∈ cJ fr k <-> u < k /\ fr u = true := by simp [cJ]
theorem jM (k : Nat) : (cJ fr k).length <= k := by
 unfold cJ
 have := List.length_filter_le fr (List.range k)
 simpa using this
theorem sE (k : Nat) : (cJ fr k).Pairwise (· < ·) := List.Pairwise.filter _ List.pairwise_lt_range
theorem pH {i : Nat} : ∀ d, ∃ r, cJ fr (i + d) = cJ fr i ++ r
 | 0 => ⟨[], by simp⟩
 | d + 1 => by
  obtain ⟨r, h⟩ := pH d
  exact ⟨r ++ if fr (i + d) then [i + d] else [], by rw [show i + (d + 1) = (i + d) + 1 by omega, dm, h, List.append_assoc]⟩
theorem nh {n u : Nat} (hu : u < n) (hf : fr u = true) : (cJ fr n).getD (cJ fr u).length 0 = u := by
 obtain ⟨r, h⟩ := pH fr (i := u + 1) (n - (u + 1))
 rw [show u + 1 + (n - (u + 1)) = n by omega, dm, if_pos hf] at h
 rw [h]
 simp
theorem lQ {n u : Nat} (hu : u < n) (hf : fr u = true) : (cJ fr u).length < (cJ fr n).length := by
 obtain ⟨r, h⟩ := pH fr (i := u + 1) (n - (u + 1))
 rw [show u + 1 + (n - (u + 1)) = n by omega, dm, if_pos hf] at h
 rw [h]
 simp
theorem Cs {l : List Nat} (h : l.Pairwise (· < ·)) {i j : Nat} (hi : i < l.length) (hj : j < l.length) (e : l.getD i 0 = l.getD j 0) : i = j := by
 rw [cH hi, cH hj] at e
 rcases Nat.lt_trichotomy i j with h1 | h1 | h1
 ·have := List.pairwise_iff_getElem.1 h i j hi hj h1; omega
 ·exact h1
 ·have := List.pairwise_iff_getElem.1 h j i hj hi h1; omega
theorem jJ {n m : Nat} (hm : m < (cJ fr n).length) : (cJ fr n).getD m 0 < n /\ fr ((cJ fr n).getD m 0) = true /\ (cJ fr ((cJ fr n).getD m 0)).length = m := by
 have h1 : (cJ fr n).getD m 0 ∈ cJ fr n := dl _ m 0 hm
 obtain ⟨h2, h3⟩ := (zh fr).1 h1
 refine ⟨h2, h3, ?_⟩
 exact Cs (sE fr n) (lQ fr h2 h3) hm (nh fr h2 h3)
theorem xW {u v : Nat} (h : u < v) (hf : fr u = true) : (cJ fr u).length < (cJ fr v).length := lQ fr h hf
end
def qd (w : List Int) (fr : Nat -> Bool) (n : Nat) : List Int := (cJ fr n).map fun i => w.getD i 0
def sm (X : List Bool) (fr : Nat -> Bool) (n : Nat) : List Bool := (cJ fr n).map fun i => X.getD i false
def wh (nd : List (List Nat)) (inn : List Bool) (fr : Nat -> Bool) (n : Nat) : List (List Nat) := (cJ fr n).map fun i => ((nd.getD i []).filter fun k => !inn.getD k false).map fun k => (cJ fr k).length
theorem kP (w : List Int) (fr : Nat -> Bool) (n : Nat) : (qd w fr n).length = (cJ fr n).length := by simp [qd]
theorem kZ (X : List Bool) (fr : Nat -> Bool) (n : Nat) : (sm X fr n).length = (cJ fr n).length := by simp [sm]
theorem fU (nd : List (List Nat)) (inn : List Bool) (fr : Nat -> Bool) (n : Nat) : (wh nd inn fr n).length = (cJ fr n).length := by simp [wh]
theorem uk (w : List Int) (fr : Nat -> Bool) (n : Nat) {m : Nat} (hm : m < (cJ fr n).length) : (qd w fr n).getD m 0 = w.getD ((cJ fr n).getD m 0) 0 := by
 rw [cH (by rw [kP]; exact hm), cH hm]; simp [qd]
theorem uJ (X : List Bool) (fr : Nat -> Bool) (n : Nat) {m : Nat} (hm : m < (cJ fr n).length) : (sm X fr n).getD m false = X.getD ((cJ fr n).getD m 0) false := by
 rw [cH (by rw [kZ]; exact hm), cH hm]; simp [sm]
theorem kI (nd : List (List Nat)) (inn : List Bool) (fr : Nat -> Bool) (n : Nat) {m : Nat} (hm : m < (cJ fr n).length) : (wh nd inn fr n).getD m [] = ((nd.getD ((cJ fr n).getD m 0) []).filter fun k => !inn.getD k false).map fun k => (cJ fr k).length := by
 rw [cH (by rw [fU]; exact hm), cH hm]; simp [wh]
theorem qV {w w' : List Int} {X X' : List Bool} : ∀ n, (∀ k, k < n -> w.getD k 0 = w'.getD k 0 /\ X.getD k false = X'.getD k false) -> wS w X n = wS w' X' n
 | 0, _ => rfl
 | n + 1, h => by
  simp only [wS]
  rw [qV n fun k hk => h k (by omega), (h n (by omega)).1, (h n (by omega)).2]
theorem qN {w : List Int} {X inn : List Bool} {fr : Nat -> Bool} : ∀ n, (∀ k, k < n -> fr k = false -> X.getD k false = inn.getD k false) -> (∀ k, k < n -> fr k = true -> inn.getD k false = false) ->
  wS w X n = wS w inn n + wS (qd w fr n) (sm X fr n) (cJ fr n).length
 | 0, _, _ => rfl
 | n + 1, h1, h2 => by
  have ih := qN (w := w) (X := X) (inn := inn) (fr := fr) n (fun k hk => h1 k (by omega)) (fun k hk => h2 k (by omega))
  simp only [wS]
  cases hf : fr n with
  | true =>
   rw [h2 n (by omega) hf]
   have hL : cJ fr (n + 1) = cJ fr n ++ [n] := by rw [dm, if_pos hf]
   have hl : (cJ fr (n + 1)).length = (cJ fr n).length + 1 := by rw [hL]; simp
   have e1 : qd w fr (n + 1) = qd w fr n ++ [w.getD n 0] := by simp [qd, hL]
   have e2 : sm X fr (n + 1) = sm X fr n ++ [X.getD n false] := by simp [sm, hL]
   rw [hl]
   simp only [wS]
   have c1 : wS (qd w fr (n + 1)) (sm X fr (n + 1)) (cJ fr n).length = wS (qd w fr n) (sm X fr n) (cJ fr n).length := qV _ fun k hk => by
    rw [e1, e2]
    constructor
    ·rw [List.getD_eq_getElem?_getD, List.getElem?_append_left (by rw [kP]; exact hk), List.getD_eq_getElem?_getD]
    ·rw [List.getD_eq_getElem?_getD, List.getElem?_append_left (by rw [kZ]; exact hk), List.getD_eq_getElem?_getD]
   have g1 : (qd w fr (n + 1)).getD (cJ fr n).length 0 = w.getD n 0 := by rw [e1, <- kP w fr n]; simp
   have g2 : (sm X fr (n + 1)).getD (cJ fr n).length false = X.getD n false := by rw [e2, <- kZ X fr n]; simp
   rw [c1, g1, g2, ih]
   simp only [Bool.false_eq_true, if_false]
   omega
  | false =>
   have hL : cJ fr (n + 1) = cJ fr n := by rw [dm, hf]; simp
   have e1 : qd w fr (n + 1) = qd w fr n := by simp [qd, hL]
   have e2 : sm X fr (n + 1) = sm X fr n := by simp [sm, hL]
   rw [hL, e1, e2, h1 n (by omega) hf, ih]
   omega
def free (inn out : List Bool) (k : Nat) : Bool := !inn.getD k false && !out.getD k false
theorem pC {nd : List (List Nat)} {bad inn out : List Bool} (g : Gr nd bad) (hup : zy nd out) {u : Nat} (hu : u < nd.length) (hf : free inn out u = true) {k : Nat} (hk : k ∈ nd.getD u []) (hin : inn.getD k false = false) : k < nd.length /\ free inn out k = true := by
 refine ⟨g.lt _ _ hk, ?_⟩
 cases ho : out.getD k false with
 | true =>
  have h1 := hup u k hu hk ho
  have h4 : free inn out u = (!inn.getD u false && !out.getD u false) := rfl
  rw [h4, h1] at hf
  simp at hf
 | false => unfold free; rw [hin, ho]; rfl
theorem BA {nd : List (List Nat)} {bad inn out : List Bool} (g : Gr nd bad) (hup : zy nd out) : Gr (wh nd inn (free inn out) nd.length) (List.replicate (wh nd inn (free inn out) nd.length).length false) := by
 have one : ∀ m, m < (cJ (free inn out) nd.length).length -> ∀ k ∈ nd.getD ((cJ (free inn out) nd.length).getD m 0) [], inn.getD k false = false -> k < nd.length /\ free inn out k = true := fun m hm k hk hin =>
  pC g hup (jJ (free inn out) hm).1 (jJ (free inn out) hm).2.1 hk hin
 refine ⟨?_, by simp, fun i j hj => ?_, fun i => ?_⟩
 ·rw [fU]; have := jM (free inn out) nd.length; have := g.size; omega
 ·by_cases hi : i < (cJ (free inn out) nd.length).length
  ·rw [kI nd inn _ _ hi] at hj
   obtain ⟨k, hk, rfl⟩ := List.mem_map.1 hj
   simp only [List.mem_filter, Bool.not_eq_true'] at hk
   obtain ⟨h1, h2⟩ := one i hi k hk.1 hk.2
   rw [fU]
   exact lQ _ h1 h2
  ·rw [List.getD_eq_getElem?_getD, List.getElem?_eq_none (by rw [fU]; omega)] at hj; cases hj
 ·by_cases hi : i < (cJ (free inn out) nd.length).length
  ·rw [kI nd inn _ _ hi, List.pairwise_map]
   refine ((g.sorted _).filter _).imp_of_mem ?_
   intro a b ha hb hab
   simp only [List.mem_filter, Bool.not_eq_true'] at ha
   exact xW _ hab (one i hi a ha.1 ha.2).2
  ·rw [List.getD_eq_getElem?_getD, List.getElem?_eq_none (by rw [fU]; omega)]; exact .nil
theorem s9 {nd : List (List Nat)} {bad inn out X : List Bool} (g : Gr nd bad) (hup : zy nd out) (hX : bK nd X) : bK (wh nd inn (free inn out) nd.length) (sm X (free inn out) nd.length) := by
 intro m hm j hj
 by_cases hml : m < (cJ (free inn out) nd.length).length
 ·obtain ⟨h1, h2, _⟩ := jJ (free inn out) hml
  rw [uJ _ _ _ hml] at hm
  rw [kI nd inn _ _ hml] at hj
  obtain ⟨k, hk, rfl⟩ := List.mem_map.1 hj
  simp only [List.mem_filter, Bool.not_eq_true'] at hk
  obtain ⟨h3, h4⟩ := pC g hup h1 h2 hk.1 hk.2
  rw [uJ _ _ _ (lQ _ h3 h4), nh _ h3 h4]
  exact hX _ hm k hk.1
 ·rw [List.getD_eq_getElem?_getD, List.getElem?_eq_none (by rw [kZ]; omega)] at hm; cases hm
def rA (inn out S : List Bool) (n : Nat) : List Bool := (List.range n).map fun k => if free inn out k then S.getD (cJ (free inn out) k).length false else inn.getD k false
theorem qz (inn out S : List Bool) (n : Nat) : (rA inn out S n).length = n := by simp [rA]
theorem rE (inn out S : List Bool) {n k : Nat} (hk : k < n) : (rA inn out S n).getD k false = if free inn out k then S.getD (cJ (free inn out) k).length false else inn.getD k false := by
 rw [cH (by rw [qz]; exact hk)]; simp [rA]
theorem qB {nd : List (List Nat)} {bad inn out S : List Bool} (g : Gr nd bad) (hup : zy nd out) (hi : bK nd inn) (hil : inn.length = nd.length) (hS : bK (wh nd inn (free inn out) nd.length) S) : bK nd (rA inn out S nd.length) := by
 intro u hu k hk
 have hun : u < nd.length := by
  by_cases h : u < nd.length
  ·exact h
  ·rw [List.getD_eq_getElem?_getD, List.getElem?_eq_none (by omega)] at hk; cases hk
 have hkn := g.lt _ _ hk
 rw [rE _ _ _ hun] at hu
 rw [rE _ _ _ hkn]
 cases hin : inn.getD k false with
 | true =>
  have : free inn out k = false := by unfold free; rw [hin]; rfl
  rw [this]; rfl
 | false =>
  cases hf : free inn out u with
  | true =>
   rw [hf, if_pos rfl] at hu
   obtain ⟨h3, h4⟩ := pC g hup hun hf hk hin
   rw [h4, if_pos rfl]
   have hml := lQ _ hun hf
   refine hS _ hu _ ?_
   rw [kI nd inn _ _ hml, nh _ hun hf]
   exact List.mem_map.2 ⟨k, by simp only [List.mem_filter, Bool.not_eq_true']; exact ⟨hk, hin⟩, rfl⟩
  | false =>
   rw [hf, if_neg (by simp)] at hu
   have := hi u hu k hk
   rw [hin] at this; cases this
structure xm (w : List Int) (nd : List (List Nat)) (inn out A : List Bool) (v : Int) : Prop where
 len : A.length = nd.length
 closed : bK nd A
 bd : -((nd.length : Int) * 2147483648) <= v /\ v <= (nd.length : Int) * 2147483648
 most : ∀ X : List Bool, X.length = nd.length -> bK nd X -> (∀ u : Nat, inn.getD u false = true -> X.getD u false = true) -> (∀ u : Nat, out.getD u false = true -> X.getD u false = false) -> wS w X nd.length <= wS w inn nd.length + v
theorem xx {w : List Int} (hw : WOK w) (fr : Nat -> Bool) (n : Nat) : WOK (qd w fr n) := fun m => by
 by_cases hm : m < (cJ fr n).length
 ·rw [uk _ _ _ hm]; exact hw _
 ·rw [List.getD_eq_getElem?_getD, List.getElem?_eq_none (by rw [kP]; omega)]; simp
theorem yp {w : List Int} {nd : List (List Nat)} {bad inn out S : List Bool} (g : Gr nd bad) (hw : WOK w) (hup : zy nd out) (hi : bK nd inn) (hil : inn.length = nd.length) (hS : iA (qd w (free inn out) nd.length) (wh nd inn (free inn out) nd.length) S) :
  xm w nd inn out (rA inn out S nd.length) (wS (qd w (free inn out) nd.length) S (wh nd inn (free inn out) nd.length).length) := by
 refine ⟨qz _ _ _ _, qB g hup hi hil hS.closed, ?_, fun X hX hXc h1 h2 => ?_⟩
 ·have h := oR (xx hw (free inn out) nd.length) S (wh nd inn (free inn out) nd.length).length
  have := jM (free inn out) nd.length
  rw [fU] at h ⊢
  omega
 ·have h3 := hS.most (sm X (free inn out) nd.length) (by rw [kZ, fU]) (s9 g hup hXc)
  have h4 := qN (w := w) (X := X) (inn := inn) (fr := free inn out) nd.length (fun k _ hf => by
   unfold free at hf
   cases hik : inn.getD k false with
   | true => exact h1 k hik
   | false =>
    rw [hik] at hf
    simp only [Bool.not_false, Bool.true_and, Bool.not_eq_false'] at hf
    exact h2 k hf) (fun k _ hf => by
   unfold free at hf
   simp only [Bool.and_eq_true, Bool.not_eq_true'] at hf
   exact hf.1)
  rw [fU] at h3 ⊢
  omega
end Go.Proofs.Yteamkjblpglliaa
