import Derived.Test.YteamkjblpglliaaAbR
set_option linter.unusedSimpArgs false
set_option linter.unusedVariables false
namespace Go.Proofs.Yteamkjblpglliaa
open Go.RowKit Go.SL Go.HL
structure Sel (C : List Int) (nd : List (List Nat)) (B : Int) (S : List Bool) : Prop where
 len : S.length = nd.length
 closed : bK nd S
 cost : wS C S nd.length <= B
theorem gJ (W C : List Int) (num den : Int) (X : List Bool) : ∀ n, n <= W.length -> wS (dg W C num den) X n = den * wS W X n - num * wS C X n
 | 0, _ => by simp [wS]
 | n + 1, h => by
  simp only [wS]
  rw [gJ W C num den X n (by omega)]
  cases X.getD n false with
  | false => simp
  | true =>
   simp only [if_true]
   rw [kV W C num den (by omega), Int.mul_add, Int.mul_add]
   omega
theorem ni {w : List Int} (hw : ∀ i, 0 <= w.getD i 0) {X Y : List Bool} (h : ∀ u : Nat, X.getD u false = true -> Y.getD u false = true) : ∀ n, wS w X n <= wS w Y n
 | 0 => by simp [wS]
 | n + 1 => by
  have ih := ni hw h n
  have := hw n
  simp only [wS]
  cases hX : X.getD n false with
  | true => rw [h n hX]; simp only [if_true]; omega
  | false =>
   simp only [Bool.false_eq_true, if_false]
   split <;> omega
theorem q9 {fr fr' : Nat -> Bool} {n i : Nat} (h : ∀ k, fr' k = true -> fr k = true) (hi : i < n) (h1 : fr i = true) (h2 : fr' i = false) : (cJ fr' n).length < (cJ fr n).length := by
 have le : ∀ m, (cJ fr' m).length <= (cJ fr m).length := fun m => by
  induction m with
  | zero => simp [cJ]
  | succ m ih =>
   rw [dm, dm, List.length_append, List.length_append]
   cases hm : fr' m with
   | true => rw [h m hm]; simp; exact ih
   | false => simp only [Bool.false_eq_true, if_false, List.length_nil]; omega
 have : ∀ d, (cJ fr' (i + 1 + d)).length < (cJ fr (i + 1 + d)).length := fun d => by
  induction d with
  | zero =>
   rw [Nat.add_zero, dm, dm, h1, h2]
   have := le i
   simp only [Bool.false_eq_true, if_false, if_true, List.append_nil, List.length_append, List.length_cons, List.length_nil]
   omega
  | succ d ih =>
   rw [<- Nat.add_assoc, dm, dm, List.length_append, List.length_append]
   cases hm : fr' (i + 1 + d) with
   | true => rw [h _ hm]; simp; omega
   | false => simp only [Bool.false_eq_true, if_false, List.length_nil]; omega
 have := this (n - (i + 1))
 rw [show i + 1 + (n - (i + 1)) = n by omega] at this
 exact this
def Keeps (W C : List Int) (n : Nat) (a b : List Bool) : Prop := ∀ X : List Bool, X.length = n -> i7 W C n X a = false -> i7 W C n X b = false
theorem Keeps.refl (W C : List Int) (n : Nat) (a : List Bool) : Keeps W C n a a := fun _ _ h => h
theorem Keeps.trans {W C : List Int} {n : Nat} {a b c : List Bool} (h1 : Keeps W C n a b) (h2 : Keeps W C n b c) : Keeps W C n a c := fun X hX h => h2 X hX (h1 X hX h)
theorem kh {W C : List Int} {n : Nat} {B : Int} {s : Se} {set : List Bool} (hs : set.length = n) (hb : s.best.length = n) : Keeps W C n s.best (lD W C n B s set).best := by
 intro X hX h
 unfold lD
 split
 ·rename_i hc
  simp only
  cases hx : i7 W C n X set with
  | false => rfl
  | true =>
   have := oL (by rw [hX, hs]) (by rw [hs, hb]) hx hc.2
   rw [h] at this; cases this
 ·exact h
theorem vK {W C : List Int} {n : Nat} {B : Int} {s : Se} {set : List Bool} (hc : wS C set n <= B) : i7 W C n set (lD W C n B s set).best = false := by
 unfold lD
 split
 ·simp only; exact p6 W C n set
 ·rename_i h
  cases hb : i7 W C n set s.best with
  | false => rfl
  | true => exact absurd ⟨hc, hb⟩ h
theorem mW {W C : List Int} {nd : List (List Nat)} {B : Int} {s : Se} {set : List Bool} (h : Sel C nd B s.best) (hl : set.length = nd.length) (hc : bK nd set) : Sel C nd B (lD W C nd.length B s set).best := by
 unfold lD
 split
 ·rename_i h1; exact ⟨hl, hc, h1.1⟩
 ·exact h
theorem lI {W C : List Int} {n : Nat} {B : Int} {s : Se} {set : List Bool} : ∃ b, lD W C n B s set = { s with best := b } /\ (b = set \/ b = s.best) := by
 unfold lD
 split
 ·exact ⟨set, rfl, .inl rfl⟩
 ·exact ⟨s.best, rfl, .inr rfl⟩
structure Gh (C : List Int) (nd : List (List Nat)) (B : Int) (inn out X : List Bool) : Prop where
 sel : Sel C nd B X
 sub : ∀ u : Nat, inn.getD u false = true -> X.getD u false = true
 apart : ∀ u : Nat, out.getD u false = true -> X.getD u false = false
def tw (k : Nat) : Int := ((2 ^ (k + 1) - 1 : Nat) : Int)
theorem iF (k : Nat) : 1 <= tw k := by
 unfold tw
 have : 2 <= 2 ^ (k + 1) := by rw [Nat.pow_succ]; have := Nat.two_pow_pos k; omega
 omega
theorem m0 {a b : Nat} (h : a <= b) : tw a <= tw b := by
 unfold tw
 have : 2 ^ (a + 1) <= 2 ^ (b + 1) := Nat.pow_le_pow_right (by omega) (by omega)
 omega
theorem uy {a b k : Nat} (ha : a < k) (hb : b < k) : 1 + tw a + tw b <= tw k := by
 have h1 := m0 (show a <= k - 1 by omega)
 have h2 := m0 (show b <= k - 1 by omega)
 have h3 : tw k = 1 + tw (k - 1) + tw (k - 1) := by
  unfold tw
  rw [show k + 1 = (k - 1 + 1) + 1 by omega, Nat.pow_succ 2 (k - 1 + 1)]
  have := Nat.two_pow_pos (k - 1 + 1)
  omega
 omega
structure BrR (W C : List Int) (nd : List (List Nat)) (B : Int) (inn out : List Bool) (s s' : Se) (b : Bool) : Prop where
 same : s' = { s with steps := s'.steps, best := s'.best }
 steps : 0 <= s'.steps /\ s'.steps <= s.steps
 sel : Sel C nd B s'.best
 keeps : Keeps W C nd.length s.best s'.best
 all : b = true -> ∀ X, Gh C nd B inn out X -> i7 W C nd.length X s'.best = false
 enough : tw (cJ (free inn out) nd.length).length <= s.steps -> b = true /\ s.steps - tw (cJ (free inn out) nd.length).length <= s'.steps
theorem BrR.stop {W C : List Int} {nd : List (List Nat)} {B : Int} {inn out : List Bool} {s : Se} (h0 : s.steps = 0) (hs : Sel C nd B s.best) : BrR W C nd B inn out s s false :=
 ⟨rfl, by omega, hs, Keeps.refl _ _ _ _, by simp, fun h => by have := iF (cJ (free inn out) nd.length).length; omega⟩
theorem Dh {W C : List Int} {nd : List (List Nat)} {B v num den : Int} {inn out A best : List Bool} (hlw : W.length = nd.length) (hm : qb num den) (hR : xm (dg W C num den) nd inn out A v) (hcut : (v + den * wS W inn nd.length - num * wS C inn nd.length + num * B) / den < wS W best nd.length) {X : List Bool} (hX : Gh C nd B inn out X) : i7 W C nd.length X best = false := by
 have h1 := hR.most X hX.sel.len hX.sel.closed hX.sub hX.apart
 rw [gJ _ _ _ _ _ _ (by omega), gJ _ _ _ _ _ _ (by omega)] at h1
 have h2 : num * wS C X nd.length <= num * B := Int.mul_le_mul_of_nonneg_left hX.sel.cost hm.1.1
 have h3 : wS W X nd.length * den <= v + den * wS W inn nd.length - num * wS C inn nd.length + num * B := by
  rw [Int.mul_comm]; omega
 have h4 : wS W X nd.length <= (v + den * wS W inn nd.length - num * wS C inn nd.length + num * B) / den := (Int.le_ediv_iff_mul_le (by have := hm.2.1; omega)).2 h3
 unfold i7
 rw [if_neg (by omega)]
 simp only [decide_eq_false_iff_not]
 omega
end Go.Proofs.Yteamkjblpglliaa
