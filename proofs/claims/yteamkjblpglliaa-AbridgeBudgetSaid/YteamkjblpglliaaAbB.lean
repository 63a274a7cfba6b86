import Derived.Test.YteamkjblpglliaaClFits
import Derived.Test.YteamkjblpglliaaClMax
section
set_option linter.unusedSimpArgs false
set_option linter.unusedVariables false
namespace Go.Proofs.Yteamkjblpglliaa
open Go.RowKit Go.SL Go.HL
set_option maxHeartbeats 4000000 in
theorem yS (l : List Int) (f : FuncId) (p : Int -> Bool) (hl : l.length <= 9223372036854775807) (hp : ∀ x ∈ l, HT Try.prog f [.int .i64 x] (fun r => r = .bool (p x))) :
  HT Try.prog 70 [I l, .fn f []] (fun r => ∃ e : Int, r = .int .i64 e /\ -1 <= e /\ (0 <= e <-> l.any p = true)) := by
 refine HT.of rfl Eh (Nat.le_of_ble_eq_true rfl) ?_
 unfold Kl
 simp only [I, aF, Nat.reduceAdd]
 repeat (first | refine ae ?_ | refine ac ?_ | refine aD ?_ | refine ag ?_ | refine ab ?_ | refine ay ?_)
 refine bc [0, 1, 7, 8] (fun i : Nat => i <= l.length /\ (l.take i).any p = false) (fun i => ⟨[(0, .sl l.length (HL.ints l)), (1, .fn f []), (7, .int .i64 l.length), (8, .int .i64 i)], [], 0⟩) (fun i => l.length - i) 0 ⟨by omega, rfl⟩ rfl ?_
 rintro i ⟨hi, hno⟩
 by_cases hil : i < l.length
 ·obtain ⟨x, hx⟩ : ∃ x, l.getD i 0 = x := ⟨_, rfl⟩
  have hst := dS l p 0 hil
  rw [hx, hno, Bool.false_or] at hst
  repeat (first | refine ae ?_ | refine aL ?_ | refine bl (by rfl) aP (by (try simp (disch := omega) only [go_sem, hx]); try rfl) ?_ | refine ac ?_ | refine au ?_ | refine am ?_ | refine ag ?_ | refine ab ?_ | refine ay ?_ | refine aw ?_)
  refine o7 (by rfl) aE cI (hp x (hx ▸ ie l 0 hil)) ?_
  rintro _ rfl
  refine ⟨ce, _, _, _, _, _, bT, (by decide), aN, ?_⟩
  cases hpx : p x with
  | true =>
   repeat (first | refine ae ?_ | refine ac ?_ | refine am ?_ | refine ag ?_ | refine ab ?_)
   refine ar ?_
   exact ⟨i, rfl, by omega, by rw [fA l p (hst.trans hpx)]; simp⟩
  | false =>
   repeat (first | refine ae ?_ | refine ac ?_ | refine bn ?_ | refine ak ?_ | refine ab ?_ | refine bV ?_ | refine aw ?_)
   exact bm [0, 1, 7, 8] (i + 1) ⟨hil, hst.trans hpx⟩ (by omega) rfl
 ·obtain rfl : i = l.length := by omega
  rw [List.take_length] at hno
  repeat (first | refine ae ?_ | refine ac ?_ | refine au ?_ | refine aZ (by rfl) ?_ | refine ak ?_ | refine ag ?_ | refine ab ?_)
  refine ar ?_
  exact ⟨-1, rfl, by omega, by rw [hno]; simp⟩
theorem uC (l : List Int) (f : FuncId) (p : Int -> Bool) (hl : l.length <= 9223372036854775807) (hp : ∀ x ∈ l, HT Try.prog f [.int .i64 x] (fun r => r = .bool (p x))) :
  HT Try.prog 52 [I l, .fn f []] (fun r => r = .bool (l.any p)) := by
 refine HT.of rfl Hg (Nat.le_of_ble_eq_true rfl) ?_
 unfold JQ
 simp only [I, aF, Nat.reduceAdd]
 repeat (first | refine ae ?_ | refine ac ?_ | refine ag ?_ | refine ab ?_)
 refine aX aE cI (yS l f p hl hp) ?_
 rintro _ ⟨e, rfl, he, h⟩
 refine ⟨ce, _, _, _, _, _, bT, (by decide), aN, ?_⟩
 by_cases h0 : 0 <= e
 ·repeat (first | refine ae ?_ | refine ac ?_ | refine ef (by rfl) (by rfl) cA ?_)
  refine ar ?_
  rw [h.1 h0]; rfl
 ·have h1 : l.any p = false := by
   cases hb : l.any p with
   | false => rfl
   | true => exact absurd (h.2 hb) h0
  repeat (first | refine ae ?_ | refine ac ?_ | refine ef (by rfl) (by rfl) cA ?_)
  refine ar ?_
  rw [h1]; rfl
structure Pb (W C : List Int) (nd : List (List Nat)) (B : Int) : Prop where
 lw : W.length = nd.length
 lc : C.length = nd.length
 w : ∀ i, 0 <= W.getD i 0 /\ W.getD i 0 <= 1048576
 c : ∀ i, 0 <= C.getD i 0 /\ C.getD i 0 <= 1048576
 b : 0 <= B /\ B <= 268435456
 g : Gr nd (List.replicate nd.length false)
def jh (W C : List Int) (nd : List (List Nat)) (B : Int) : List HV := [I W, I C, Gs (nd.map nl), .int .i64 B]
theorem ep (n l h : Int) : HT Try.prog 41 [.int .i64 n, .int .i64 l, .int .i64 h] (fun r => r = .bool (decide (l <= n) && decide (n <= h))) := by
 refine HT.of rfl Ki (Nat.le_of_ble_eq_true rfl) ?_
 unfold K7
 simp only [aF, Nat.reduceAdd]
 by_cases h1 : l <= n
 ·by_cases h2 : n <= h
  ·repeat (first | refine ae ?_ | refine aI ?_ | refine ac ?_ | refine aJ ?_ | refine ag ?_ | refine ab ?_ | refine fO (by rfl) (by rfl) cA ?_)
   refine ar ?_
   simp [bJ, h1, h2]
  ·repeat (first | refine ae ?_ | refine aI ?_ | refine ac ?_ | refine aJ ?_ | refine ag ?_ | refine ab ?_ | refine fO (by rfl) (by rfl) cA ?_)
   refine ar ?_
   simp [bJ, h1, h2]
 ·repeat (first | refine ae ?_ | refine bE ?_ | refine ac ?_ | refine aK ?_ | refine ag ?_ | refine ab ?_ | refine fO (by rfl) (by rfl) cA ?_)
  refine ar ?_
  simp [bJ, h1]
theorem nr (n : Int) : HT Try.prog 56 [.int .i64 n] (fun r => r = .bool (!(decide (0 <= n) && decide (n <= 1048576)))) := by
 refine HT.of rfl Jv (Nat.le_of_ble_eq_true rfl) ?_
 unfold Ky
 simp only [aF, Nat.reduceAdd]
 repeat (first | refine ae ?_ | refine ac ?_ | refine ag ?_ | refine ab ?_)
 refine aX aE cI (ep n 0 1048576) ?_
 rintro _ rfl
 refine ⟨ce, _, _, _, _, _, bT, (by decide), aN, ?_⟩
 repeat (first | refine ae ?_ | refine ac ?_ | refine qS (by rfl) (by (try simp only [go_sem, reduceIte]); try rfl) ?_)
 refine ar ?_
 rfl
theorem yz (a b : Int) (hb : 0 < b) (h1 : -1000000000000000000 <= a) (h2 : a <= 1000000000000000000) : -1000000000000000000 <= a / b /\ a / b <= 1000000000000000000 := by
 constructor
 ·refine (Int.le_ediv_iff_mul_le hb).2 ?_
  have : -1000000000000000000 * b <= -1000000000000000000 * 1 := Int.mul_le_mul_of_nonpos_left (by omega) (by omega)
  omega
 ·rcases Int.le_total 0 a with h | h
  ·exact Int.le_trans (Int.ediv_le_self b h) h2
  ·have := Int.ediv_le_ediv hb h
   rw [Int.zero_ediv] at this
   omega
theorem pO (a b : Int) (hb : 0 < b) (hb2 : b <= 1048576) (h1 : -1000000000000000000 <= a) (h2 : a <= 1000000000000000000) : HT Try.prog 47 [.int .i64 a, .int .i64 b] (fun r => r = .int .i64 (a / b)) := by
 refine HT.of rfl Jf (Nat.le_of_ble_eq_true rfl) ?_
 unfold Kq
 simp only [aF, Nat.reduceAdd]
 have hbd := yz a b hb h1 h2
 have hm := Int.emod_nonneg a (show b ≠ 0 by omega)
 have hm2 := Int.emod_lt_of_pos a hb
 by_cases hn : a.tmod b < 0
 ·have hq : a.tdiv b = a / b + 1 := by
   rw [Int.tdiv_eq_ediv]
   split
   ·rename_i h
    exfalso
    rcases h with h | h
    ·rw [Int.tmod_eq_emod_of_nonneg h] at hn; omega
    ·have : a.tmod b = 0 := Int.tmod_eq_zero_of_dvd h
     omega
   ·rw [Int.sign_eq_one_of_pos hb]
  have e : a / b + 1 - 1 = a / b := by omega
  repeat (first | refine ae ?_ | refine ac ?_ | refine au ?_ | refine am ?_ | refine ag ?_ | refine ab ?_ | refine dQ (by rfl) (by rfl) (by (try simp (disch := omega) only [go_sem, Int.reduceAdd, Int.reduceSub, Int.reduceMul, hq, e]); try rfl) ?_ | refine wP (by rfl) (by rfl) (by omega) (by (try simp (disch := omega) only [go_sem, Int.reduceAdd, Int.reduceSub, Int.reduceMul, hq, e]); try rfl) ?_ | refine n7 (by rfl) (by rfl) (by omega) (by (try simp (disch := omega) only [go_sem, Int.reduceAdd, Int.reduceSub, Int.reduceMul, hq, e]); try rfl) ?_)
  refine ar ?_
  rfl
 ·have hq : a.tdiv b = a / b := by
   rw [Int.tdiv_eq_ediv]
   split
   ·exact Int.add_zero _
   ·rename_i h
    exfalso
    have h3 : ¬ 0 <= a := fun x => h (.inl x)
    have h4 : a.tmod b = a % b - b := by
     rw [Int.tmod_eq_emod, if_neg h, Int.natAbs_of_nonneg (by omega)]
    omega
  repeat (first | refine ae ?_ | refine ac ?_ | refine au ?_ | refine ak ?_ | refine ag ?_ | refine ab ?_ | refine aw ?_ | refine wP (by rfl) (by rfl) (by omega) (by (try simp (disch := omega) only [go_sem, Int.reduceAdd, Int.reduceSub, Int.reduceMul, hq]); try rfl) ?_ | refine n7 (by rfl) (by rfl) (by omega) (by (try simp (disch := omega) only [go_sem, Int.reduceAdd, Int.reduceSub, Int.reduceMul, hq]); try rfl) ?_)
  refine ar ?_
  rfl
theorem bS (l : List Int) (set : List Bool) (hl : WOK l) (hls : set.length <= l.length) (hn : set.length <= 100000) : HT Try.prog 42 [I l, Bl set] (fun r => r = .int .i64 (wS l set set.length)) := by
 refine HT.of rfl Jj (Nat.le_of_ble_eq_true rfl) ?_
 unfold KH
 simp only [I, Bl, aF, Nat.reduceAdd]
 repeat (first | refine ae ?_ | refine ac ?_ | refine aD ?_ | refine ag ?_ | refine ab ?_ | refine ay ?_)
 refine bc [0, 5, 8, 9, 10] (fun i : Nat => i <= set.length)
  (fun i => ⟨[(0, .sl l.length (HL.ints l)), (5, .int .i64 (wS l set i)), (8, .sl set.length (HL.bools set)), (9, .int .i64 set.length), (10, .int .i64 i)], [], 0⟩) (fun i => set.length - i) 0 (by omega) rfl ?_
 intro i hi
 by_cases hil : i < set.length
 ·have hbd := oR hl set i
  have hx := hl i
  have hnx : wS l set (i + 1) = wS l set i + if set.getD i false then l.getD i 0 else 0 := rfl
  obtain ⟨x, hxe⟩ : ∃ x, l.getD i 0 = x := ⟨_, rfl⟩
  rw [hxe] at hx hnx
  cases hb : set.getD i false with
  | true =>
   rw [hb, if_pos rfl] at hnx
   repeat (first | refine ae ?_ | refine aL ?_ | refine bl (by rfl) aP (by (try simp (disch := omega) only [go_sem, hb, hxe]); try rfl) ?_ | refine ac ?_ | refine au ?_ | refine bH (by rfl) (by rfl) (by (try simp (disch := omega) only [go_sem, Int.reduceAdd, Int.reduceSub, Int.reduceMul, hb, hxe]); try rfl) ?_ | refine am ?_ | refine ag ?_ | refine ab ?_ | refine ay ?_ | refine bV ?_ | refine aw ?_)
   exact bm [0, 5, 8, 9, 10] (i + 1) hil (by omega) (by rw [hnx]; rfl)
  | false =>
   rw [hb, if_neg (by decide), Int.add_zero] at hnx
   repeat (first | refine ae ?_ | refine aL ?_ | refine bl (by rfl) aP (by (try simp (disch := omega) only [go_sem, hb]); try rfl) ?_ | refine ac ?_ | refine au ?_ | refine bH (by rfl) (by rfl) (by (try simp (disch := omega) only [go_sem, Int.reduceAdd, Int.reduceSub, Int.reduceMul, hb]); try rfl) ?_ | refine am ?_ | refine ak ?_ | refine ag ?_ | refine ab ?_ | refine ay ?_ | refine bV ?_ | refine aw ?_)
   exact bm [0, 5, 8, 9, 10] (i + 1) hil (by omega) (by rw [hnx]; rfl)
 ·obtain rfl : i = set.length := by omega
  repeat (first | refine ae ?_ | refine ac ?_ | refine au ?_ | refine aZ (by rfl) ?_ | refine ak ?_ | refine ag ?_ | refine ab ?_)
  refine ar ?_
  rfl
end Go.Proofs.Yteamkjblpglliaa
end
section
set_option linter.unusedSimpArgs false
set_option linter.unusedVariables false
namespace Go.Proofs.Yteamkjblpglliaa
open Go.RowKit Go.SL Go.HL
theorem WOK.zeros (n : Nat) : WOK (List.replicate n 0) := fun i => by
 rw [List.getD_eq_getElem?_getD, List.getElem?_replicate]
 split <;> simp
theorem Pb.wany {W C : List Int} {nd : List (List Nat)} {B : Int} (h : Pb W C nd B) : W.any (fun n => !(decide (0 <= n) && decide (n <= 1048576))) = false := by
 rw [List.any_eq_false]
 intro x hx
 obtain ⟨i, hi, rfl⟩ := List.getElem_of_mem hx
 have := h.w i
 rw [List.getD_eq_getElem?_getD, List.getElem?_eq_getElem hi, Option.getD_some] at this
 simp [this.1, this.2]
theorem Pb.cany {W C : List Int} {nd : List (List Nat)} {B : Int} (h : Pb W C nd B) : C.any (fun n => !(decide (0 <= n) && decide (n <= 1048576))) = false := by
 rw [List.any_eq_false]
 intro x hx
 obtain ⟨i, hi, rfl⟩ := List.getElem_of_mem hx
 have := h.c i
 rw [List.getD_eq_getElem?_getD, List.getElem?_eq_getElem hi, Option.getD_some] at this
 simp [this.1, this.2]
set_option maxHeartbeats 4000000 in
theorem jI {W C : List Int} {nd : List (List Nat)} {B : Int} (h : Pb W C nd B) : HT Try.prog 34 [.agg (jh W C nd B)] (fun r => r = .bool true) := by
 have hsz := h.g.size
 have hlw := h.lw
 have hlc := h.lc
 have hB := h.b
 have hnl : (nd.map nl).length = nd.length := by simp
 have hrl : (List.replicate nd.length (0 : Int)).length = nd.length := by simp
 have hwi := ep B 0 268435456
 rw [decide_eq_true hB.1, decide_eq_true hB.2] at hwi
 have hcv := (oI (List.replicate nd.length 0) (nd.map nl) (by omega) (by simp; omega) (fun i => by rw [cY, cL]; have := h.g.len i; omega)).mono (K' := fun r => r = .bool true) (by
  rintro _ ⟨b, rfl, hb⟩
  rw [hb.2 (VW.of h.g (WOK.zeros _) (by simp))])
 have ha1 := uC W 56 _ (by omega) (fun x _ => nr x)
 have ha2 := uC C 56 _ (by omega) (fun x _ => nr x)
 rw [h.wany, I, hlw] at ha1
 rw [h.cany, I, hlc] at ha2
 simp only [I, Gs, List.length_replicate, hnl] at hcv
 refine HT.of rfl I8 (Nat.le_of_ble_eq_true rfl) ?_
 unfold KZ
 simp only [I, Gs, jh, aF, Nat.reduceAdd, hlw, hlc, hnl]
 refine ag ?_
 refine ab ?_
 repeat (first | refine ae ?_ | refine ac ?_ | refine fK cR cy bh jk (by rfl) ?_)
 refine ag ?_
 refine ab ?_
 repeat (first | refine ae ?_ | refine aB ?_ | refine ac ?_ | refine aD ?_ | refine ax ?_)
 refine ag ?_
 refine ab ?_
 repeat (first | refine ae ?_ | refine ac ?_)
 refine ag ?_
 refine bA aS aS (fun f _ r => r = .bool (f != 52)) ?_
 repeat (first | refine ae ?_ | refine aI ?_ | refine aB ?_ | refine eh (by rfl) (by rfl) eg ?_ | refine aJ ?_ | refine aD ?_ | refine ax ?_)
 refine bk aE cI hwi ⟨_, rfl, rfl⟩ ?_
 rintro _ rfl -
 refine ⟨ce, _, _, _, _, _, bT, (by decide), aN, ?_⟩
 repeat (first | refine ae ?_ | refine aI ?_ | refine aB ?_ | refine aJ ?_ | refine ax ?_ | refine jg cR (by rfl) (by omega) bh bh ?_)
 refine bk aE cI hcv ⟨_, rfl, rfl⟩ ?_
 rintro _ rfl -
 refine ⟨ce, _, _, _, _, _, bT, (by decide), aN, ?_⟩
 repeat (first | refine ae ?_ | refine aI ?_ | refine aB ?_ | refine aJ ?_ | refine ax ?_)
 refine bk aE cI ha1 ⟨_, rfl, rfl⟩ ?_
 rintro _ rfl -
 refine ⟨ce, _, _, _, _, _, bT, (by decide), aN, ?_⟩
 repeat (first | refine ae ?_ | refine aI ?_ | refine aB ?_ | refine aJ ?_ | refine dR (by rfl) ?_ | refine ax ?_)
 refine bk aE cI ha2 ⟨_, rfl, rfl⟩ ?_
 rintro _ rfl -
 refine ⟨ce, _, _, _, _, _, bT, (by decide), aN, ?_⟩
 repeat (first | refine ae ?_ | refine aI ?_ | refine ac ?_ | refine aJ ?_ | refine dR (by rfl) ?_)
 refine ar ?_
 rfl
def dg (W C : List Int) (num den : Int) : List Int := (List.range W.length).map fun i => den * W.getD i 0 - num * C.getD i 0
theorem kT (W C : List Int) (num den : Int) : (dg W C num den).length = W.length := by simp [dg]
theorem kV (W C : List Int) (num den : Int) {i : Nat} (h : i < W.length) : (dg W C num den).getD i 0 = den * W.getD i 0 - num * C.getD i 0 := by simp [dg, h]
def qb (num den : Int) : Prop := (0 <= num /\ num <= 1048576) /\ 1 <= den /\ den <= 1048576
theorem pT {a b : Int} (h1 : 0 <= a) (h2 : a <= 1048576) (h3 : 0 <= b) (h4 : b <= 1048576) : 0 <= a * b /\ a * b <= 1099511627776 := by
 refine ⟨Int.mul_nonneg h1 h3, ?_⟩
 have := Int.mul_le_mul h2 h4 h3 (by omega : (0:Int) <= 1048576)
 omega
theorem wB (L : List Int) {i : Nat} (h : i < L.length) : (L.take i ++ List.replicate (L.length - i) 0).set i (L.getD i 0) = L.take (i + 1) ++ List.replicate (L.length - (i + 1)) 0 := by
 rw [bf L i 0 h, show L.length - i = (L.length - (i + 1)) + 1 by omega, List.replicate_succ, List.append_assoc]
 rw [List.set_append_right _ _ (by simp; omega)]
 simp [Nat.min_eq_left (Nat.le_of_lt h)]
theorem wT (L : List Int) {i : Nat} (h : i < L.length) : (L.take (i + 1) ++ List.replicate (L.length - (i + 1)) 0).getD i 0 = L.getD i 0 := by
 rw [List.getD_eq_getElem?_getD, List.getElem?_append_left (by simp; omega), List.getElem?_take_of_lt (by omega), List.getD_eq_getElem?_getD]
def Lm (e : Int) (W C : List Int) (num den : Int) (n : Nat) (ok er : HV) (r : HV) : Prop := (WOK (dg W C num den) /\ r = .tup [.osl 1 n (HL.ints (dg W C num den)), ok]) \/ (¬ WOK (dg W C num den) /\ r = .tup [.osl 1 0 [], er])
set_option maxHeartbeats 4000000 in
theorem kw {W C : List Int} {nd : List (List Nat)} {B : Int} (h : Pb W C nd B) (num den : Int) (hm : qb num den) : HT Try.prog 46 [.agg (jh W C nd B), .int .i64 num, .int .i64 den] (Lm 0 W C num den nd.length (.int .i64 0) (.int .i64 5)) := by
 have hsz := h.g.size
 have hlw := h.lw
 have hlc := h.lc
 have hB := h.b
 obtain ⟨hnum, hden⟩ := hm
 have hnl : (nd.map nl).length = nd.length := by simp
 have hL := kT W C num den
 rw [hlw] at hL
 refine HT.of rfl HP (Nat.le_of_ble_eq_true rfl) ?_
 unfold Kc
 simp only [I, Gs, jh, aF, Nat.reduceAdd, hlw, hlc, hnl]
 repeat (first | refine ae ?_ | refine ac ?_ | refine ag ?_ | refine ab ?_ | refine cW rfl (by rfl) cR ?_ | refine fK cR cy bh jk (by rfl) ?_)
 refine aX aE cI (ep num 0 1048576) ?_
 rintro _ rfl
 rw [decide_eq_true hnum.1, decide_eq_true hnum.2]
 refine ⟨ce, _, _, _, _, _, bT, (by decide), aN, ?_⟩
 repeat (first | refine ae ?_ | refine aI ?_ | refine dh (by rfl) ?_)
 refine aX aE cI (ep den 1 1048576) ?_
 rintro _ rfl
 rw [decide_eq_true hden.1, decide_eq_true hden.2]
 refine ⟨ce, _, _, _, _, _, bT, (by decide), aN, ?_⟩
 repeat (first | refine ae ?_ | refine aI ?_ | refine aB ?_ | refine ac ?_ | refine aK ?_ | refine gw (by rfl) ?_ | refine aD ?_ | refine ak ?_ | refine ag ?_ | refine ab ?_ | refine ay ?_ | refine aw ?_ | refine dh (by rfl) ?_ | refine ax ?_ | refine jg cR (by rfl) (by omega) bh bh ?_)
 refine bc [1, 2, 3, 8, 22, 23, 24] (fun i : Nat => i <= nd.length /\ ∀ k, k < i -> -2147483648 <= (dg W C num den).getD k 0 /\ (dg W C num den).getD k 0 <= 2147483648) (fun i => ⟨[(1, .int .i64 num), (2, .int .i64 den), (3, .pref 0 [] 0), (8, .ref 1 [] 1 0 nd.length), (22, .ref 1 [] 1 0 nd.length), (23, .int .i64 nd.length), (24, .int .i64 i)], [(0, .optr [.sl nd.length (HL.ints W), .sl nd.length (HL.ints C), .sl nd.length (aM (nd.map nl)), .int .i64 B]), (1, .osl 1 nd.length (HL.ints ((dg W C num den).take i ++ List.replicate ((dg W C num den).length - i) 0)))], 2⟩) (fun i => nd.length - i) 0 ⟨by omega, by omega⟩ (by rw [List.take_zero, List.nil_append, Nat.sub_zero, hL]; rfl) ?_
 rintro i ⟨hi, hok⟩
 by_cases hil : i < nd.length
 ·have hw := h.w i
  have hc := h.c i
  have hg := kV W C num den (i := i) (by omega)
  have b1 := pT (a := den) (b := W.getD i 0) (by omega) (by omega) hw.1 hw.2
  have b2 := pT (a := num) (b := C.getD i 0) (by omega) (by omega) hc.1 hc.2
  have hsp := wB (dg W C num den) (i := i) (by omega)
  have hpg := wT (dg W C num den) (i := i) (by omega)
  obtain ⟨x, hx⟩ : ∃ x, W.getD i 0 = x := ⟨_, rfl⟩
  obtain ⟨y, hy⟩ : ∃ x, C.getD i 0 = x := ⟨_, rfl⟩
  rw [hx] at hw b1 hg
  rw [hy] at hc b2 hg
  rw [hg] at hsp hpg
  rw [<- hsp] at hpg
  have hend := hsp
  generalize hL0 : (dg W C num den).take i ++ List.replicate ((dg W C num den).length - i) 0 = L0 at *
  have hL0l : L0.length = nd.length := by rw [<- hL0]; simp; omega
  have hsl : (L0.set i (den * x - num * y)).length = nd.length := by simp [hL0l]
  repeat (first | refine ae ?_ | refine ac ?_ | refine au ?_ | refine am ?_ | refine ag ?_ | refine ab ?_ | refine ay ?_ | refine aw ?_)
  refine bA aS aS (fun _ _ _ => False) ?_
  repeat (first | refine ae ?_ | refine aL ?_ | refine bQ ?_ | refine bl (by rfl) aP (by (try simp (disch := omega) only [go_sem, hx, hy, hpg]); try rfl) ?_ | refine dw (by rfl) bO (by (try simp (disch := omega) only [go_sem, reduceIte, Nat.reduceEqDiff, Nat.reduceAdd, Nat.reduceMul, hx, hy, hpg]); try rfl) aP (by (try simp (disch := omega) only [go_sem, hx, hy, hpg]); try rfl) cy ?_ | refine ac ?_ | refine ag ?_ | refine ab ?_ | refine dQ (by rfl) (by rfl) (by (try simp (disch := omega) only [go_sem, Int.reduceAdd, Int.reduceSub, Int.reduceMul, hx, hy, hpg]); try rfl) ?_ | refine jz (by rfl) (by rfl) (by (try simp (disch := omega) only [go_sem, Int.reduceAdd, Int.reduceSub, Int.reduceMul, hx, hy, hpg]); try rfl) ?_ | refine ax ?_ | refine xC (by rfl) cy bh jk (by rfl) (by decide) bO bh aP (by (try simp (disch := omega) only [go_sem, hx, hy, hpg]); try rfl) bh ?_)
  refine aX aE cI (ep (den * x - num * y) (-2147483648) 2147483648) ?_
  rintro _ rfl
  refine ⟨ce, _, _, _, _, _, bT, (by decide), aN, ?_⟩
  by_cases hin : -2147483648 <= den * x - num * y /\ den * x - num * y <= 2147483648
  ·rw [decide_eq_true hin.1, decide_eq_true hin.2]
   repeat (first | refine ae ?_ | refine ac ?_ | refine bn ?_ | refine ak ?_ | refine ab ?_ | refine bV ?_ | refine aw ?_ | refine dh (by rfl) ?_)
   refine bm [1, 2, 3, 8, 22, 23, 24] (i + 1) ⟨hil, fun k hk => ?_⟩ (by omega) (by rw [hend]; rfl)
   by_cases hki : k < i
   ·exact hok k hki
   ·obtain rfl : k = i := by omega
    rw [hg]; exact hin
  ·have hf : (decide (-2147483648 <= den * x - num * y) && decide (den * x - num * y <= 2147483648)) = false := by
    simp only [Bool.and_eq_false_iff, decide_eq_false_iff_not]
    omega
   rw [hf]
   repeat (first | refine ae ?_ | refine ac ?_ | refine am ?_ | refine ag ?_ | refine ab ?_ | refine cW rfl (by rfl) cR ?_ | refine dR (by rfl) ?_)
   refine ar ?_
   refine .inr ⟨fun hk => hin ?_, rfl⟩
   have := hk i
   rw [hg] at this
   exact this
 ·obtain rfl : i = nd.length := by omega
  have he : (dg W C num den).take nd.length ++ List.replicate ((dg W C num den).length - nd.length) 0 = dg W C num den := by
   rw [hL, List.take_of_length_le (l := dg W C num den) (by omega)]; simp
  rw [he]
  repeat (first | refine ae ?_ | refine ac ?_ | refine au ?_ | refine aZ (by rfl) ?_ | refine ak ?_ | refine ag ?_ | refine ab ?_)
  refine ar ?_
  refine .inl ⟨fun k => ?_, rfl⟩
  by_cases hk : k < nd.length
  ·exact hok k hk
  ·rw [List.getD_eq_getElem?_getD, List.getElem?_eq_none (by omega)]; simp
set_option maxHeartbeats 4000000 in
theorem jo {W C : List Int} {nd : List (List Nat)} {B : Int} (h : Pb W C nd B) (num den : Int) (hm : ¬ qb num den) : HT Try.prog 46 [.agg (jh W C nd B), .int .i64 num, .int .i64 den] (fun r => r = .tup [.osl 1 0 [], .int .i64 1]) := by
 have hsz := h.g.size
 have hlw := h.lw
 have hlc := h.lc
 have hnl : (nd.map nl).length = nd.length := by simp
 refine HT.of rfl HP (Nat.le_of_ble_eq_true rfl) ?_
 unfold Kc
 simp only [I, Gs, jh, aF, Nat.reduceAdd, hlw, hlc, hnl]
 repeat (first | refine ae ?_ | refine ac ?_ | refine ag ?_ | refine ab ?_ | refine cW rfl (by rfl) cR ?_ | refine fK cR cy bh jk (by rfl) ?_)
 refine aX aE cI (ep num 0 1048576) ?_
 rintro _ rfl
 refine ⟨ce, _, _, _, _, _, bT, (by decide), aN, ?_⟩
 by_cases hn : 0 <= num /\ num <= 1048576
 ·have hd : (decide (1 <= den) && decide (den <= 1048576)) = false := by
   simp only [Bool.and_eq_false_iff, decide_eq_false_iff_not]
   unfold qb at hm
   omega
  rw [decide_eq_true hn.1, decide_eq_true hn.2]
  repeat (first | refine ae ?_ | refine aI ?_ | refine dh (by rfl) ?_)
  refine aX aE cI (ep den 1 1048576) ?_
  rintro _ rfl
  rw [hd]
  refine ⟨ce, _, _, _, _, _, bT, (by decide), aN, ?_⟩
  repeat (first | refine ae ?_ | refine aI ?_ | refine ac ?_ | refine aK ?_ | refine am ?_ | refine ag ?_ | refine ab ?_ | refine cW rfl (by rfl) cR ?_ | refine dR (by rfl) ?_)
  refine ar ?_
  rfl
 ·have hd : (decide (0 <= num) && decide (num <= 1048576)) = false := by
   simp only [Bool.and_eq_false_iff, decide_eq_false_iff_not]
   omega
  rw [hd]
  repeat (first | refine ae ?_ | refine bE ?_ | refine ac ?_ | refine aJ ?_ | refine am ?_ | refine ag ?_ | refine ab ?_ | refine cW rfl (by rfl) cR ?_ | refine dR (by rfl) ?_)
  refine ar ?_
  rfl
end Go.Proofs.Yteamkjblpglliaa
end
