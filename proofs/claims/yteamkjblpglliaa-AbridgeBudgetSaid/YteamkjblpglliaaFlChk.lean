import Derived.Test.YteamkjblpglliaaClFits
import Derived.Test.YteamkjblpglliaaHb
import Derived.Test.YteamkjblpglliaaClNet
import Derived.Test.YteamkjblpglliaaClMax
section
set_option linter.unusedSimpArgs false
set_option linter.unusedVariables false
namespace Go.Proofs.Yteamkjblpglliaa
open Go.RowKit Go.SL Go.HL
def cx (l : List (List Nat)) : List HV := l.map fun r => .osl 1 r.length (HL.ints (nl r))
theorem ib (l : List (List Nat)) : (cx l).length = l.length := by simp [cx]
theorem og (l : List (List Nat)) {i : Nat} (h : i < l.length) : (cx l).getD i .dead = .osl 1 (l.getD i []).length (HL.ints (nl (l.getD i []))) := by simp [cx, h]
theorem jF (l : List (List Nat)) : aW (cx l) = aM (l.map nl) := by
 induction l with
 | nil => rfl
 | cons a l ih => unfold cx aM at ih ⊢; simp only [List.map_cons, aW, HV.strip, HL.ints_strip, ih, cL]
theorem vm (l : List (List Nat)) (i : Nat) (x : List Nat) (v : HV) {m : Nat} (hm : m = x.length) : ((cx l).set i v).set i (.osl 1 m (HL.ints (nl x))) = cx (l.set i x) := by
 subst hm
 simp [cx, List.set_set, List.map_set]
theorem xK (n : Nat) : (List.replicate n [HV.osl 1 0 []]).flatten = cx (List.replicate n []) := by
 induction n with
 | zero => rfl
 | succ n ih => rw [List.replicate_succ, List.flatten_cons, ih]; rfl
theorem n6 (l : List (List Nat)) {n : Nat} (h : n = l.length) : win (cx l) 0 n = cx l := mq _ (by rw [ib]; exact h)
theorem mT (l : List (List Nat)) (x : List Nat) {m : Nat} (hm : m = x.length) : cx l ++ [.osl 1 m (HL.ints (nl x))] = cx (l ++ [x]) := by subst hm; simp [cx]
attribute [go_sem] og ib n6 xK
theorem qI (nd : List (List Nat)) : c6 nd 0 0 = List.replicate nd.length [] := by
 apply List.ext_getElem
 ·simp [c6]
 ·intro j h1 h2; simp [c6, fq, fW]
structure R0 (nd : List (List Nat)) (bad : List Bool) (i : Nat) (rank left : List Int) (now : List Nat) : Prop where
 lr : rank.length = nd.length
 ll : left.length = nd.length
 rank_ : ∀ u, u < i -> rank.getD u 0 = -1
 left_ : ∀ u, u < i -> left.getD u 0 = ((nd.getD u []).length : Int)
 now_ : now = iw nd bad i
theorem R0.step {nd : List (List Nat)} {bad : List Bool} {i : Nat} {rank left : List Int} {now : List Nat} (s : R0 nd bad i rank left now) (hi : i < nd.length) :
  R0 nd bad (i + 1) (rank.set i (-1)) (left.set i ((nd.getD i []).length : Int)) (now ++ if nd.getD i [] = [] /\ bad.getD i false = false then [i] else []) := by
 refine ⟨by simpa using s.lr, by simpa using s.ll, fun u hu => ?_, fun u hu => ?_, by rw [pK, s.now_]⟩
 ·rw [i9 _ _ _ _ _ (by rw [s.lr]; exact hi)]
  split
  ·rfl
  ·exact s.rank_ u (by omega)
 ·rw [i9 _ _ _ _ _ (by rw [s.ll]; exact hi)]
  split
  ·rename_i h; subst h; rfl
  ·exact s.left_ u (by omega)
end Go.Proofs.Yteamkjblpglliaa
end
section
set_option linter.unusedSimpArgs false
set_option linter.unusedVariables false
namespace Go.Proofs.Yteamkjblpglliaa
open Go.RowKit Go.SL Go.HL
end Go.Proofs.Yteamkjblpglliaa
end
section
set_option linter.unusedSimpArgs false
set_option linter.unusedVariables false
namespace Go.Proofs.Yteamkjblpglliaa
open Go.RowKit Go.SL Go.HL
end Go.Proofs.Yteamkjblpglliaa
end
section
set_option linter.unusedSimpArgs false
set_option linter.unusedVariables false
namespace Go.Proofs.Yteamkjblpglliaa
open Go.RowKit Go.SL Go.HL
theorem jO (n : Int) (m : Nat) (hm : 0 < m) (hm2 : m <= 1099511627776) (h1 : -9223372036854775808 <= n) (h2 : n <= 9223372036854775807) : HT Try.prog 10 [.int .i64 n, .int .i64 m] (fun r => ∃ y : Nat, r = .int .i64 y /\ y < m) := by
 refine HT.of rfl FG (Nat.le_of_ble_eq_true rfl) ?_
 unfold Jm
 simp only [aF, Nat.reduceAdd]
 by_cases h0 : n < 0
 ·obtain ⟨x, hx⟩ : ∃ x : Nat, 0 - (n + 1) = x := ⟨(-(n + 1)).toNat, by omega⟩
  have ht : (x : Int).tmod m = ((x % m : Nat) : Int) := (Int.ofNat_tmod x m).symm
  have hlt := Nat.mod_lt x hm
  repeat (first | refine ae ?_ | refine ac ?_ | refine au ?_ | refine bH (by rfl) (by rfl) (by (try simp (disch := omega) only [go_sem, Int.reduceAdd, Int.reduceSub, Int.reduceMul, hx, ht]); try rfl) ?_ | refine am ?_ | refine ag ?_ | refine ab ?_ | refine n7 (by rfl) (by rfl) (by omega) (by (try simp (disch := omega) only [go_sem, Int.reduceAdd, Int.reduceSub, Int.reduceMul, hx, ht]); try rfl) ?_ | refine ux (by rfl) (by (try simp (disch := omega) only [go_sem, Int.reduceAdd, Int.reduceSub, Int.reduceMul, hx, ht]); try rfl) ?_)
  refine ar ?_
  exact ⟨x % m, rfl, hlt⟩
 ·obtain ⟨x, rfl⟩ : ∃ x : Nat, n = x := ⟨n.toNat, by omega⟩
  have ht : (x : Int).tmod m = ((x % m : Nat) : Int) := (Int.ofNat_tmod x m).symm
  have hlt := Nat.mod_lt x hm
  repeat (first | refine ae ?_ | refine ac ?_ | refine au ?_ | refine ak ?_ | refine ag ?_ | refine ab ?_ | refine aw ?_ | refine n7 (by rfl) (by rfl) (by omega) (by (try simp (disch := omega) only [go_sem, Int.reduceAdd, Int.reduceSub, Int.reduceMul, ht]); try rfl) ?_)
  refine ar ?_
  exact ⟨x % m, rfl, hlt⟩
def dT : Nat -> Nat -> List Bool
 | _, 0 => []
 | b, k + 1 => decide (b % 2 = 1) :: dT (b / 2) k
theorem lO : ∀ (k b : Nat), (dT b k).length = k
 | 0, _ => rfl
 | k + 1, b => by simp [dT, lO k]
theorem m9 (l : List Int) (i : Nat) (m : Nat) (hm : 0 < m) (hm2 : m <= 1099511627776) (hi : i <= 1000000) (hl : l.length <= 9223372036854775807) (hr : ∀ k, k < l.length -> -9223372036854775808 <= l.getD k 0 /\ l.getD k 0 <= 9223372036854775807) : HT Try.prog 33 [I l, .int .i64 i, .int .i64 m] (fun r => ∃ y : Nat, r = .int .i64 y /\ y < m) := by
 refine HT.of rfl IJ (Nat.le_of_ble_eq_true rfl) ?_
 unfold JY
 simp only [I, aF, Nat.reduceAdd]
 by_cases hil : i < l.length
 ·have := hr i hil
  repeat (first | refine ae ?_ | refine aI ?_ | refine aL ?_ | refine bl (by rfl) aP j6 ?_ | refine ac ?_ | refine au ?_ | refine aK ?_ | refine aD ?_ | refine ak ?_ | refine ag ?_ | refine ab ?_ | refine aw ?_ | refine ef (by rfl) (by rfl) cA ?_)
  refine aX aE cI (jO (l.getD i 0) m hm hm2 this.1 this.2) ?_
  rintro _ ⟨y, rfl, hy⟩
  refine ⟨ce, _, _, _, _, _, bT, (by decide), aN, ?_⟩
  repeat (first | refine ae ?_ | refine ac ?_)
  refine ar ?_
  exact ⟨y, rfl, hy⟩
 ·repeat (first | refine ae ?_ | refine aI ?_ | refine ac ?_ | refine au ?_ | refine aK ?_ | refine aD ?_ | refine am ?_ | refine ag ?_ | refine ab ?_ | refine ef (by rfl) (by rfl) cA ?_)
  refine ar ?_
  exact ⟨0, rfl, hm⟩
end Go.Proofs.Yteamkjblpglliaa
end
section
set_option linter.unusedSimpArgs false
set_option linter.unusedVariables false
namespace Go.Proofs.Yteamkjblpglliaa
open Go.RowKit Go.SL
theorem oc : ∀ (X : List Bool), ∃ b, b < 2 ^ X.length /\ dT b X.length = X
 | [] => ⟨0, by simp, rfl⟩
 | x :: X => by
  obtain ⟨b, hb, he⟩ := oc X
  refine ⟨2 * b + if x then 1 else 0, ?_, ?_⟩
  ·rw [List.length_cons, Nat.pow_succ]
   split <;> omega
  ·rw [List.length_cons]
   unfold dT
   cases x with
   | true => simp only [if_true]; rw [show (2 * b + 1) % 2 = 1 by omega, show (2 * b + 1) / 2 = b by omega, he]; simp
   | false => simp only [Bool.false_eq_true, if_false, Nat.add_zero]; rw [show (2 * b) % 2 = 0 by omega, show (2 * b) / 2 = b by omega, he]; simp
section
variable {w : List Int} {nd : List (List Nat)} {B : List Bool} {M : Int}
def Cand (nd : List (List Nat)) (k : Nat) (X : List Bool) : Prop := X = List.replicate nd.length false \/ ∃ j, j < k /\ X = dT j nd.length /\ bK nd X
theorem Cand.len {k : Nat} {X : List Bool} (h : Cand nd k X) : X.length = nd.length := by
 rcases h with rfl | ⟨j, _, rfl, _⟩
 ·simp
 ·exact lO _ _
theorem ma (n : Nat) : bK nd (List.replicate n false) := fun u hu => by
 rw [List.getD_eq_getElem?_getD, List.getElem?_replicate] at hu
 split at hu <;> simp at hu
theorem ud (w : List Int) (m : Nat) : ∀ n, wS w (List.replicate m false) n = 0
 | 0 => rfl
 | n + 1 => by
  unfold wS
  rw [ud w m n, List.getD_eq_getElem?_getD, List.getElem?_replicate]
  split <;> simp
structure Best (w : List Int) (nd : List (List Nat)) (k : Nat) (B : List Bool) (M : Int) : Prop where
 len : B.length = nd.length
 most : ∀ X, Cand nd k X -> wS w X nd.length <= M
 some : ∃ X, Cand nd k X /\ wS w X nd.length = M
 all : ∀ u : Nat, B.getD u false = true <-> ∀ X, Cand nd k X -> wS w X nd.length = M -> X.getD u false = true
theorem Cand.succ {k : Nat} {X : List Bool} : Cand nd (k + 1) X <-> Cand nd k X \/ X = dT k nd.length /\ bK nd X := by
 constructor
 ·rintro (h | ⟨j, h1, h2, h3⟩)
  ·exact .inl (.inl h)
  ·by_cases e : j = k
   ·subst e; exact .inr ⟨h2, h3⟩
   ·exact .inl (.inr ⟨j, by omega, h2, h3⟩)
 ·rintro ((h | ⟨j, h1, h2, h3⟩) | ⟨h1, h2⟩)
  ·exact .inl h
  ·exact .inr ⟨j, by omega, h2, h3⟩
  ·exact .inr ⟨k, by omega, h1, h2⟩
theorem Best.less {k : Nat} (h : Best w nd k B M) (hl : wS w (dT k nd.length) nd.length < M) : Best w nd (k + 1) B M := by
 obtain ⟨X, h1, h2⟩ := h.some
 refine ⟨h.len, fun X hX => ?_, ⟨X, Cand.succ.2 (.inl h1), h2⟩, fun u => (h.all u).trans ⟨fun h X hX e => ?_, fun h X hX => h X (Cand.succ.2 (.inl hX))⟩⟩
 ·rcases Cand.succ.1 hX with hX | ⟨rfl, _⟩
  ·exact h.most X hX
  ·omega
 ·rcases Cand.succ.1 hX with hX | ⟨rfl, _⟩
  ·exact h X hX e
  ·omega
end
end Go.Proofs.Yteamkjblpglliaa
end
section
set_option linter.unusedSimpArgs false
set_option linter.unusedVariables false
namespace Go.Proofs.Yteamkjblpglliaa
open Go.RowKit Go.SL Go.HL
def Lb (p : Prop) (r : HV) : Prop := ∃ b : Bool, r = .bool b /\ (b = true <-> p)
theorem wL (n s t : Int) (es : List Edge) (hl : es.length <= 9223372036854775807) : HT Try.prog 40 [.int .i64 n, Es es, .int .i64 s, .int .i64 t] (Lb (VNet n s t es)) := by
 refine ⟨kG JE, fun w rargs F hF ho => ?_⟩
 obtain ⟨_, _, rfl, o1, q2⟩ := cG ho
 obtain ⟨_, _, rfl, o2, q3⟩ := cG q2
 obtain ⟨_, _, rfl, o3, q4⟩ := cG q3
 obtain ⟨_, _, rfl, o4, q5⟩ := cG q4
 obtain rfl := mC q5
 obtain ⟨a, cap, rfl, hr⟩ := kX hF o2
 obtain rfl := cE o1
 obtain rfl := cE o3
 obtain rfl := cE o4
 refine (jK n a _ cap es s t w hr rfl hl).mono ?_
 rintro e w' ⟨b, rfl, hb, hB⟩
 exact l8 ⟨b, rfl, hb⟩ hB fun F h => .bool .nil
end Go.Proofs.Yteamkjblpglliaa
end
section
set_option linter.unusedSimpArgs false
set_option linter.unusedVariables false
namespace Go.Proofs.Yteamkjblpglliaa
open Go.RowKit Go.SL Go.HL
theorem pQ (n s t : Int) (es : List Edge) (fl : List Int) (hl : es.length <= 9223372036854775807) (hbad : ¬ VNet n s t es \/ fl.length ≠ es.length) : HT Try.prog 16 [.int .i64 n, Es es, .int .i64 s, .int .i64 t, I fl] (fun r => r = .tup [.int .i64 0, .int .i64 1]) := by
 refine HT.of rfl Hr (Nat.le_of_ble_eq_true rfl) ?_
 unfold Kx
 simp only [Es, I, aF, Nat.reduceAdd]
 repeat (first | refine ae ?_ | refine ac ?_ | refine ag ?_ | refine ab ?_)
 refine aX aE cI (wL n s t es hl) ?_
 rintro _ ⟨b, rfl, hb⟩
 cases b with
 | false =>
  refine ⟨ce, _, _, _, _, _, bT, (by decide), aN, ?_⟩
  repeat (first | refine ae ?_ | refine bE ?_ | refine ac ?_ | refine aJ ?_ | refine am ?_ | refine ag ?_ | refine ab ?_ | refine dR (by rfl) ?_)
  refine ar ?_
  rfl
 | true =>
  have hv := hb.1 rfl
  have hne : ¬ fl.length = es.length := by rcases hbad with h | h; exact absurd hv h; exact h
  refine ⟨ce, _, _, _, _, _, bT, (by decide), aN, ?_⟩
  repeat (first | refine ae ?_ | refine aI ?_ | refine ac ?_ | refine a8 ?_ | refine aK ?_ | refine aD ?_ | refine am ?_ | refine ag ?_ | refine ab ?_ | refine dh (by rfl) ?_)
  refine ar ?_
  rfl
end Go.Proofs.Yteamkjblpglliaa
end
