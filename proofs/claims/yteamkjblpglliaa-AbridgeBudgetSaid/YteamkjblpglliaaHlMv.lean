import Derived.Test.YteamkjblpglliaaAbE
import Derived.Test.YteamkjblpglliaaAbO
import Derived.Test.YteamkjblpglliaaAbN
import Derived.Test.YteamkjblpglliaaHb
import Derived.Test.YteamkjblpglliaaHl5
section
set_option linter.unusedSimpArgs false
set_option linter.unusedVariables false
namespace Go.Proofs.Yteamkjblpglliaa
open Go.RowKit Go.SL Go.HL
theorem zd {W C : List Int} {nd : List (List Nat)} {B num den : Int} {S X : List Bool} (hlw : W.length = nd.length) (hm : qb num den) (hS : iA (dg W C num den) nd S) (hX : Sel C nd B X) : wS W X nd.length <= gL W C nd B num den S := by
 have h1 := hS.most X hX.len hX.closed
 rw [gJ _ _ _ _ _ _ (by omega)] at h1
 have h2 : num * wS C X nd.length <= num * B := Int.mul_le_mul_of_nonneg_left hX.cost hm.1.1
 refine (Int.le_ediv_iff_mul_le (by have := hm.2.1; omega)).2 ?_
 rw [Int.mul_comm]; omega
theorem Lst.ge {W C : List Int} {nd : List (List Nat)} {B : Int} {s : Se} (h : Lst W C nd B s) (hlw : W.length = nd.length) {X : List Bool} (hX : Sel C nd B X) : wS W X nd.length <= s.value := by
 rw [h.val]; exact zd hlw h.mul h.max hX
def yj (W C : List Int) (n : Nat) (s : Se) (b : Bool) : Sn := ⟨s.best, wS W s.best n, wS C s.best n, s.num, s.den, s.flow, s.value, b⟩
theorem CP {W C : List Int} {n : Nat} {s : Se} {b : Bool} (h : s.best.length = n) : I5 (yj W C n s b) = sF W C n s b := by
 unfold I5 yj sF Bl I; rw [h]
theorem Lst.bound {W C : List Int} {nd : List (List Nat)} {bad : List Bool} {B : Int} {s : Se} (g : Gr nd bad) (h : Lst W C nd B s) {x y : Int} (hB : BoundR (dg W C s.num s.den) nd s.flow x y) : y = 0 /\ x = wS (dg W C s.num s.den) s.set nd.length := by
 obtain ⟨set, value, hD, hset⟩ := h.dual
 obtain ⟨h1, h2⟩ := s8 g h.wok hD.found.flow hB
 refine ⟨h1, ?_⟩
 have h3 := hD.found.val
 have h4 := hD.val
 rw [hset]
 have : ((nd.length : Int)).toNat = nd.length := by omega
 rw [this] at h3
 omega
theorem SolS.check {W C : List Int} {nd : List (List Nat)} {B steps : Int} {s : Se} {b : Bool} {bad : List Bool} (g : Gr nd bad) (h : SolS W C nd B steps s b) {e : Int} (he : Jy W C nd B (yj W C nd.length s b) e) : e = 0 := by
 have hA : GM W C nd B (yj W C nd.length s b) := ⟨h.sel, rfl, rfl, h.lst.mul, h.lst.wok⟩
 rcases he with ⟨hn, _⟩ | ⟨_, x, y, hB, hv⟩
 ·exact absurd hA hn
 ·obtain ⟨rfl, rfl⟩ := h.lst.bound g hB
  rcases hv with ⟨_, _, h0⟩ | ⟨hn, _⟩
  ·exact h0
  ·exact absurd ⟨rfl, h.lst.val.symm⟩ hn
theorem oM {W C : List Int} {n : Nat} {X Y : List Bool} (h : i7 W C n X Y = false) : wS W X n <= wS W Y n := by
 unfold i7 at h
 by_cases e : wS W X n = wS W Y n
 ·omega
 ·rw [if_neg e] at h; simp only [decide_eq_false_iff_not] at h; omega
def yn : List Int := [5, 4, 3]
def wi : List Int := [4, 3, 2]
def ndEx : List (List Nat) := [[2], [], []]
theorem pbEx : Pb yn wi ndEx 5 := by
 refine ⟨rfl, rfl, fun i => ?_, fun i => ?_, by decide, ⟨by decide, by decide, fun i j hj => ?_, fun i => ?_⟩⟩
 ·match i with
  | 0 => decide
  | 1 => decide
  | 2 => decide
  | i + 3 => simp [yn]
 ·match i with
  | 0 => decide
  | 1 => decide
  | 2 => decide
  | i + 3 => simp [wi]
 ·match i with
  | 0 => simp [ndEx] at hj; subst hj; decide
  | 1 => simp [ndEx] at hj
  | 2 => simp [ndEx] at hj
  | i + 3 => simp [ndEx] at hj
 ·match i with
  | 0 => simp [ndEx]
  | 1 => simp [ndEx]
  | 2 => simp [ndEx]
  | i + 3 => simp [ndEx]
theorem closedEx {a b c : Bool} : bK ndEx [a, b, c] <-> (a = true -> c = true) := by
 constructor
 ·intro h ha
  exact h 0 (by simpa using ha) 2 (by decide)
 ·intro h u hu j hj
  match u with
  | 0 => simp [ndEx] at hj; subst hj; simpa using h (by simpa using hu)
  | 1 => simp [ndEx] at hj
  | 2 => simp [ndEx] at hj
  | u + 3 => simp [ndEx] at hj
theorem zT : Sel wi ndEx 5 [false, true, true] := ⟨rfl, closedEx.2 (by simp), by decide⟩
theorem BS {S : List Bool} (hS : Sel wi ndEx 5 S) (hb : i7 yn wi ndEx.length [false, true, true] S = false) : S = [false, true, true] := by
 have hl := hS.len
 have hc := hS.cost
 have hcl := hS.closed
 match S, hl with
 | [a, b, c], _ =>
  rw [closedEx] at hcl
  cases a <;> cases b <;> cases c <;> first | rfl | (exfalso; revert hc; decide) | (exfalso; revert hb; decide) | (exfalso; revert hcl; decide)
theorem CG {S : List Bool} (hS : iA (dg yn wi 1 1) ndEx S) : gL yn wi ndEx 5 1 1 S = 8 := by
 have h1 := hS.most [true, true, true] rfl (closedEx.2 (by simp))
 have hl := hS.len
 match S, hl with
 | [a, b, c], _ => cases a <;> cases b <;> cases c <;> first | rfl | (exfalso; revert h1; decide)
end Go.Proofs.Yteamkjblpglliaa
end
section
set_option linter.unusedSimpArgs false
set_option linter.unusedVariables false
namespace Go.Proofs.Yteamkjblpglliaa
open Go.RowKit Go.SL Go.HL
set_option maxHeartbeats 16000000 in
theorem tQ : HT Try.prog 18 [] (fun r => r = .bool true) := by
 have hso := kF pbEx 1024 (by omega) (by omega)
 have hw1 : WOK (dg yn wi 1 1) := fun i => by
  match i with
  | 0 => decide
  | 1 => decide
  | 2 => decide
  | i + 3 => simp [dg, yn]
 have hdu := ur pbEx 1 1 ⟨by omega, by omega⟩ hw1
 have hpb : jh yn wi ndEx 5 = [.sl 3 [.int .i64 5, .int .i64 4, .int .i64 3], .sl 3 [.int .i64 4, .int .i64 3, .int .i64 2], .sl 3 [.sl 1 [.int .i64 2], .sl 0 [], .sl 0 []], .int .i64 5] := rfl
 rw [hpb] at hso hdu
 refine HT.of rfl JR (Nat.le_of_ble_eq_true rfl) ?_
 unfold KP
 simp only [aF, Nat.reduceAdd]
 refine ag ?_
 refine ab ?_
 repeat (first | refine ae ?_ | refine ac ?_)
 refine ag ?_
 refine ab ?_
 repeat (first | refine ac ?_ | refine bv ?_ | refine cn ?_ | refine dI cR ?_ | refine tG cR aE bh rP (by simp) (by rfl) (by rfl) (by rfl) ?_ | refine kO k9 k8 (by simp [eL]) ?_)
 refine fE 96 [1] _ rfl rfl ?_
 refine xD 0 _ [1] (⟨[(1, .pref 0 [] 0)], [(0, .optr [.sl 3 [.int .i64 5, .int .i64 4, .int .i64 3], .sl 3 [.int .i64 4, .int .i64 3, .int .i64 2], .sl 3 [.sl 1 [.int .i64 2], .sl 0 [], .sl 0 []], .int .i64 5])], 1⟩ : St) (fun F h rvs fs o => yK o) rfl rfl ?_
 repeat (first | refine ag ?_ | refine ab ?_ | refine bw ?_)
 refine aX aE cI (hso) ?_
 rintro _ ⟨s, b, rfl, hS⟩
 obtain rfl : b = true := hS.enough (by omega) (by decide)
 have hbs : s.best = [false, true, true] := BS hS.sel (hS.best rfl _ zT)
 have hv7 : 7 <= s.value := hS.lst.ge rfl zT
 have hck := (yc pbEx (yj yn wi ndEx.length s true) (by show s.best.length <= _; rw [hbs]; decide)).mono (K' := fun r => r = .int .i64 0) (by
  rintro _ ⟨e, rfl, he⟩
  rw [hS.check pbEx.g he])
 rw [CP (by rw [hbs]; rfl), hpb] at hck
 have hw7 : wS yn [false, true, true] ndEx.length = 7 := by decide
 have hc5 : wS wi [false, true, true] ndEx.length = 5 := by decide
 unfold sF at hck ⊢
 rw [hbs, hw7, hc5] at hck ⊢
 have hl3 : ndEx.length = 3 := rfl
 rw [hl3] at hck ⊢
 have hbo : HL.bools [false, true, true] = [.bool false, .bool true, .bool true] := rfl
 rw [hbo] at hck ⊢
 have hss := tN [false, true, true] [false, true, true] (by decide) (by decide)
 rw [decide_eq_true rfl] at hss
 have hsB : Bl [false, true, true] = .sl 3 [.bool false, .bool true, .bool true] := rfl
 rw [hsB] at hss
 refine ⟨ce, _, _, _, _, _, bT, (by decide), aN, ?_⟩
 repeat (first | refine ae ?_ | refine ac ?_ | refine br ?_ | refine ag ?_ | refine ab ?_ | refine bw ?_ | refine bv ?_ | refine dI cR ?_)
 refine aX aE cI (hdu) ?_
 rintro _ ⟨fl, set, value, hD, rfl⟩
 rw [CG hD.max]
 simp only [I]
 refine ⟨ce, _, _, _, _, _, bT, (by decide), aN, ?_⟩
 repeat (first | refine ae ?_ | refine aI ?_ | refine aB ?_ | refine ac ?_ | refine eh (by rfl) (by rfl) eg ?_ | refine aJ ?_ | refine br ?_ | refine ag ?_ | refine ab ?_ | refine ax ?_ | refine cn ?_)
 refine aX aE cI (hss) ?_
 rintro _ rfl
 refine ⟨ce, _, _, _, _, _, bT, (by decide), aN, ?_⟩
 repeat (first | refine ae ?_ | refine aI ?_ | refine aB ?_ | refine eh (by rfl) (by rfl) eg ?_ | refine aJ ?_ | refine ef (by rfl) (by rfl) cA ?_ | refine ax ?_ | refine bw ?_)
 refine aX aE cI (hck) ?_
 rintro _ rfl
 refine ⟨ce, _, _, _, _, _, bT, (by decide), aN, ?_⟩
 repeat (first | refine ae ?_ | refine aI ?_ | refine ac ?_ | refine eh (by rfl) (by rfl) eg ?_ | refine aJ ?_)
 refine ar ?_
 rfl
end Go.Proofs.Yteamkjblpglliaa
end
section
set_option linter.unusedSimpArgs false
set_option linter.unusedVariables false
namespace Go.Proofs.Yteamkjblpglliaa
open Go.RowKit Go.HL
theorem jO (n : Int) (m : Nat) (hm : 0 < m) (hm2 : m <= 1099511627776) (h1 : -9223372036854775808 <= n) (h2 : n <= 9223372036854775807) : HT Try.prog 10 [.int .i64 n, .int .i64 m] (fun r => ∃ y : Nat, r = .int .i64 y /\ y < m) := by
 refine HT.of rfl FG (Nat.le_of_ble_eq_true rfl) ?_
 unfold Jm
 simp only [aF, Nat.reduceAdd]
 by_cases h0 : n < 0
 ·obtain ⟨x, hx⟩ : ∃ x : Nat, 0 - (n + 1) = x := ⟨(-(n + 1)).toNat, by omega⟩
  have ht : (x : Int).tmod m = ((x % m : Nat) : Int) := (Int.ofNat_tmod x m).symm
  have hlt := Nat.mod_lt x hm
  repeat (first | refine ae ?_ | refine ac ?_ | refine au ?_ | refine bH (by rfl) (by rfl) (by (try simp (disch := omega) only [go_sem, Int.reduceAdd, Int.reduceSub, Int.reduceMul, hx, ht]); try rfl) ?_ | refine am ?_ | refine ag ?_ | refine ab ?_ | refine n7 (by rfl) (by rfl) (by omega) (by (try simp (disch := omega) only [go_sem, Int.reduceAdd, Int.reduceSub, Int.reduceMul, hx, ht]); try rfl) ?_ | refine ux (by rfl) (by (try simp (disch := omega) only [go_sem, Int.reduceAdd, Int.reduceSub, Int.reduceMul, hx, ht]); try rfl) ?_)
  refine ar ?_
  exact ⟨x % m, rfl, hlt⟩
 ·obtain ⟨x, rfl⟩ : ∃ x : Nat, n = x := ⟨n.toNat, by omega⟩
  have ht : (x : Int).tmod m = ((x % m : Nat) : Int) := (Int.ofNat_tmod x m).symm
  have hlt := Nat.mod_lt x hm
  repeat (first | refine ae ?_ | refine ac ?_ | refine au ?_ | refine ak ?_ | refine ag ?_ | refine ab ?_ | refine aw ?_ | refine n7 (by rfl) (by rfl) (by omega) (by (try simp (disch := omega) only [go_sem, Int.reduceAdd, Int.reduceSub, Int.reduceMul, ht]); try rfl) ?_)
  refine ar ?_
  exact ⟨x % m, rfl, hlt⟩
theorem m9 (l : List Int) (i : Nat) (m : Nat) (hm : 0 < m) (hm2 : m <= 1099511627776) (hi : i <= 1000000) (hl : l.length <= 9223372036854775807) (hr : ∀ k, k < l.length -> -9223372036854775808 <= l.getD k 0 /\ l.getD k 0 <= 9223372036854775807) : HT Try.prog 33 [I l, .int .i64 i, .int .i64 m] (fun r => ∃ y : Nat, r = .int .i64 y /\ y < m) := by
 refine HT.of rfl IJ (Nat.le_of_ble_eq_true rfl) ?_
 unfold JY
 simp only [I, aF, Nat.reduceAdd]
 by_cases hil : i < l.length
 ·have := hr i hil
  repeat (first | refine ae ?_ | refine aI ?_ | refine aL ?_ | refine bl (by rfl) aP j6 ?_ | refine ac ?_ | refine au ?_ | refine aK ?_ | refine aD ?_ | refine ak ?_ | refine ag ?_ | refine ab ?_ | refine aw ?_ | refine ef (by rfl) (by rfl) cA ?_)
  refine aX aE cI (jO (l.getD i 0) m hm hm2 this.1 this.2) ?_
  rintro _ ⟨y, rfl, hy⟩
  refine ⟨ce, _, _, _, _, _, bT, (by decide), aN, ?_⟩
  repeat (first | refine ae ?_ | refine ac ?_)
  refine ar ?_
  exact ⟨y, rfl, hy⟩
 ·repeat (first | refine ae ?_ | refine aI ?_ | refine ac ?_ | refine au ?_ | refine aK ?_ | refine aD ?_ | refine am ?_ | refine ag ?_ | refine ab ?_ | refine ef (by rfl) (by rfl) cA ?_)
  refine ar ?_
  exact ⟨0, rfl, hm⟩
end Go.Proofs.Yteamkjblpglliaa
end
section
set_option linter.unusedSimpArgs false
set_option linter.unusedVariables false
namespace Go.HL
open Go.RowKit
section
variable {P : Program} {E : Fr} {N fr : Nat} {sl st : Lk} {loc : Nat -> Value} {fp : Nat -> List Nat} {a : Act} {w : World}
end
end Go.HL
end
