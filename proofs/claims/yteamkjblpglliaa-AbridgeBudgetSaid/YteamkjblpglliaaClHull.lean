import Derived.Test.YteamkjblpglliaaAbV
import Derived.Test.YteamkjblpglliaaHlDn
import Derived.Test.YteamkjblpglliaaClClsd
section
set_option linter.unusedSimpArgs false
set_option linter.unusedVariables false
namespace Go.Proofs.Yteamkjblpglliaa
open Go.RowKit Go.SL Go.HL
theorem qD (l : List Int) (set : List Bool) (hl : WOK l) (hls : set.length = l.length) (hn : set.length <= 100000) : HT Try.prog 22 [I l, Bl set] (fun r => r = .int .i64 (wS l set set.length)) := by
 refine HT.of rfl JK (Nat.le_of_ble_eq_true rfl) ?_
 unfold K5
 simp only [I, Bl, aF, Nat.reduceAdd]
 rw [<- hls]
 repeat (first | refine ae ?_ | refine ac ?_ | refine ag ?_ | refine ab ?_ | refine ay ?_)
 refine bc [0, 1, 5, 6] (fun i : Nat => i <= set.length)
  (fun i => ⟨[(0, .sl set.length (HL.ints l)), (1, .sl set.length (HL.bools set)), (5, .int .i64 (wS l set i)), (6, .int .i64 i)], [], 0⟩) (fun i => set.length - i) 0 (by omega) rfl ?_
 intro i hi
 by_cases hil : i < set.length
 ·have hbd := oR hl set i
  have hx := hl i
  have hnx : wS l set (i + 1) = wS l set i + if set.getD i false then l.getD i 0 else 0 := rfl
  obtain ⟨x, hxe⟩ : ∃ x, l.getD i 0 = x := ⟨_, rfl⟩
  rw [hxe] at hx hnx
  cases hb : set.getD i false with
  | true =>
   rw [hb, if_pos rfl] at hnx
   repeat (first | refine ae ?_ | refine aI ?_ | refine aL ?_ | refine bl (by rfl) aP (by (try simp (disch := omega) only [go_sem, hb, hxe]); try rfl) ?_ | refine ac ?_ | refine au ?_ | refine aJ ?_ | refine bH (by rfl) (by rfl) (by (try simp (disch := omega) only [go_sem, Int.reduceAdd, Int.reduceSub, Int.reduceMul, hb, hxe]); try rfl) ?_ | refine aD ?_ | refine am ?_ | refine ag ?_ | refine ab ?_ | refine ay ?_ | refine bV ?_ | refine aw ?_)
   exact bm [0, 1, 5, 6] (i + 1) hil (by omega) (by rw [hnx]; rfl)
  | false =>
   rw [hb, if_neg (by decide), Int.add_zero] at hnx
   repeat (first | refine ae ?_ | refine aI ?_ | refine aL ?_ | refine bl (by rfl) aP (by (try simp (disch := omega) only [go_sem, hb]); try rfl) ?_ | refine ac ?_ | refine au ?_ | refine aJ ?_ | refine bH (by rfl) (by rfl) (by (try simp (disch := omega) only [go_sem, Int.reduceAdd, Int.reduceSub, Int.reduceMul, hb]); try rfl) ?_ | refine aD ?_ | refine am ?_ | refine ak ?_ | refine ag ?_ | refine ab ?_ | refine ay ?_ | refine bV ?_ | refine aw ?_)
   exact bm [0, 1, 5, 6] (i + 1) hil (by omega) (by rw [hnx]; rfl)
 ·obtain rfl : i = set.length := by omega
  repeat (first | refine ae ?_ | refine bE ?_ | refine ac ?_ | refine au ?_ | refine aK ?_ | refine aD ?_ | refine aZ (by rfl) ?_ | refine ak ?_ | refine ag ?_ | refine ab ?_)
  refine ar ?_
  rfl
theorem tN (a b : List Bool) (h1 : a.length <= 9223372036854775807) (h2 : b.length <= 9223372036854775807) : HT Try.prog 21 [Bl a, Bl b] (fun r => r = .bool (decide (a = b))) := by
 refine HT.of rfl Ka (Nat.le_of_ble_eq_true rfl) ?_
 unfold Ks
 simp only [Bl, aF, Nat.reduceAdd]
 by_cases hab : a.length = b.length
 ·repeat (first | refine ae ?_ | refine ac ?_ | refine a8 ?_ | refine aD ?_ | refine ak ?_ | refine ag ?_ | refine ab ?_ | refine ay ?_ | refine aw ?_)
  refine bc [0, 1, 5] (fun i : Nat => i <= a.length /\ a.take i = b.take i)
   (fun i => ⟨[(0, .sl a.length (HL.bools a)), (1, .sl b.length (HL.bools b)), (5, .int .i64 i)], [], 0⟩) (fun i => a.length - i) 0 ⟨by omega, by simp⟩ rfl ?_
  rintro i ⟨hi, hE⟩
  by_cases hil : i < a.length
  ·have ta := bf a i false hil
   have tb := bf b i false (by omega)
   obtain ⟨x, hx⟩ : ∃ x, a.getD i false = x := ⟨_, rfl⟩
   obtain ⟨y, hy⟩ : ∃ x, b.getD i false = x := ⟨_, rfl⟩
   by_cases hxy : x = y
   ·subst hxy
    repeat (first | refine ae ?_ | refine ac ?_ | refine au ?_ | refine aD ?_ | refine am ?_ | refine ag ?_ | refine ab ?_ | refine ay ?_ | refine aw ?_)
    refine bA aS aS (fun _ _ _ => False) ?_
    repeat (first | refine ae ?_ | refine aL ?_ | refine bl (by rfl) aP (by (try simp (disch := omega) only [go_sem, hx, hy]); try rfl) ?_ | refine ac ?_ | refine bH (by rfl) (by rfl) (by (try simp (disch := omega) only [go_sem, Int.reduceAdd, Int.reduceSub, Int.reduceMul, hx, hy]); try rfl) ?_ | refine ak ?_ | refine ab ?_ | refine bV ?_ | refine aw ?_ | refine oK (by rfl) (by rfl) (by (try simp only [go_sem, reduceIte, hx, hy]); try rfl) ?_)
    exact bm [0, 1, 5] (i + 1) ⟨hil, by rw [ta, tb, hE, hx, hy]⟩ (by omega) rfl
   ·have hne : (x == y) = false := by simpa using hxy
    repeat (first | refine ae ?_ | refine ac ?_ | refine au ?_ | refine aD ?_ | refine am ?_ | refine ag ?_ | refine ab ?_ | refine ay ?_ | refine aw ?_)
    refine bA aS aS (fun _ _ _ => False) ?_
    repeat (first | refine ae ?_ | refine aL ?_ | refine bl (by rfl) aP (by (try simp (disch := omega) only [go_sem, hx, hy, hne]); try rfl) ?_ | refine ac ?_ | refine am ?_ | refine ag ?_ | refine ab ?_ | refine oK (by rfl) (by rfl) (by (try simp only [go_sem, reduceIte, hx, hy, hne]); try rfl) ?_)
    refine ar ?_
    have : a ≠ b := fun e => hxy (by rw [<- hx, <- hy, e])
    simp [bJ, this]
  ·obtain rfl : i = a.length := by omega
   rw [List.take_length, hab, List.take_length] at hE
   repeat (first | refine ae ?_ | refine ac ?_ | refine au ?_ | refine aD ?_ | refine aZ (by rfl) ?_ | refine ak ?_ | refine ag ?_ | refine ab ?_)
   refine ar ?_
   simp [bJ, hE]
 ·have : a ≠ b := fun e => hab (by rw [e])
  repeat (first | refine ae ?_ | refine ac ?_ | refine a8 ?_ | refine aD ?_ | refine am ?_ | refine ag ?_ | refine ab ?_)
  refine ar ?_
  simp [bJ, this]
def mn (b : Int) (k : Nat) : List Bool := (List.range k).map fun i => decide (b.fdiv (2 ^ i) % 2 = 1)
theorem wc (b : Int) (k : Nat) : mn b (k + 1) = mn b k ++ [decide (b.fdiv (2 ^ k) % 2 = 1)] := by simp [mn, List.range_succ]
theorem kU (b : Int) (k : Nat) : (mn b k).length = k := by simp [mn]
theorem nu : ∀ (k b i : Nat), i < k -> (dT b k).getD i false = decide (b / 2 ^ i % 2 = 1)
 | 0, _, _, h => by omega
 | k + 1, b, 0, _ => by simp [dT]
 | k + 1, b, i + 1, h => by
  have := nu k (b / 2) i (by omega)
  simp only [dT, List.getD_cons_succ, this]
  rw [Nat.div_div_eq_div_mul, Nat.pow_succ, Nat.mul_comm 2]
theorem BX (b k : Nat) : mn (b : Int) k = dT b k := by
 apply List.ext_getElem
 ·rw [kU, lO]
 ·intro i h1 h2
  rw [kU] at h1
  have e2 := cH (d := false) h2
  rw [<- e2, nu k b i h1]
  simp only [mn, List.getElem_map, List.getElem_range]
  have : (b : Int).fdiv (2 ^ i) % 2 = ((b / 2 ^ i % 2 : Nat) : Int) := by
   rw [Int.fdiv_eq_ediv_of_nonneg _ (Int.le_of_lt (Int.pow_pos (by omega)))]
   simp
  rw [this]
  by_cases h : b / 2 ^ i % 2 = 1
  ·rw [decide_eq_true h, h]; rfl
  ·rw [decide_eq_false h]
   have : b / 2 ^ i % 2 = 0 := by omega
   rw [this]; rfl
theorem wv (a : Int) : IntKind.i64.wrap ((BitVec.ofInt 64 a &&& BitVec.ofInt 64 1).toNat) = a % 2 := by
 have h0 : (BitVec.ofInt 64 a &&& BitVec.ofInt 64 1).toNat = (a % 2).toNat := by
  rw [BitVec.toNat_and]
  have e1 : (BitVec.ofInt 64 (1 : Int)).toNat = 1 := by decide
  rw [e1, Nat.and_one_is_mod, BitVec.toNat_ofInt]
  omega
 rw [h0]
 have h1 := Int.emod_nonneg a (show (2 : Int) ≠ 0 by omega)
 have h2 := Int.emod_lt_of_pos a (show (0 : Int) < 2 by omega)
 rcases (show a % 2 = 0 \/ a % 2 = 1 by omega) with h | h <;> rw [h] <;> decide
theorem wK {b : Int} (h1 : -9223372036854775808 <= b) (h2 : b <= 9223372036854775807) (i : Nat) : -9223372036854775808 <= b.fdiv (2 ^ i) /\ b.fdiv (2 ^ i) <= 9223372036854775807 := by
 have hp : (0 : Int) < 2 ^ i := Int.pow_pos (by omega)
 rw [Int.fdiv_eq_ediv_of_nonneg _ (Int.le_of_lt hp)]
 constructor
 ·refine (Int.le_ediv_iff_mul_le hp).2 ?_
  have : -9223372036854775808 * (2 : Int) ^ i <= -9223372036854775808 * 1 := Int.mul_le_mul_of_nonpos_left (by omega) (by omega)
  omega
 ·rcases Int.le_total 0 b with h | h
  ·exact Int.le_trans (Int.ediv_le_self _ h) h2
  ·have := Int.ediv_le_ediv hp h
   rw [Int.zero_ediv] at this
   omega
set_option maxHeartbeats 2000000 in
theorem xg (n : Nat) (b : Int) (hn : n <= 64) (h1 : -9223372036854775808 <= b) (h2 : b <= 9223372036854775807) : HT Try.prog 24 [.int .i64 n, .int .i64 b] (fun r => r = .osl 1 n (HL.bools (mn b n))) := by
 refine HT.of rfl I7 (Nat.le_of_ble_eq_true rfl) ?_
 unfold KW
 simp only [aF, Nat.reduceAdd]
 repeat (first | refine ae ?_ | refine ac ?_ | refine ag ?_ | refine ab ?_ | refine ay ?_ | refine cW rfl (by rfl) cR ?_)
 refine bc [0, 1, 5, 6] (fun i : Nat => i <= n)
  (fun i => ⟨[(0, .int .i64 n), (1, .int .i64 b), (5, .ref 0 [] 1 0 i), (6, .int .i64 i)], [(0, .osl 1 i (HL.bools (mn b i)))], 1⟩) (fun i => n - i) 0 (by omega) rfl ?_
 intro i hi
 by_cases hin : i < n
 ·have hm : min i IntKind.i64.bits = i := by show min i 64 = i; omega
  have hm2 : min i 64 = i := by omega
  have hu : IntKind.u64.wrap (i : Int) = i := by
   have : ∀ j, j < 64 -> IntKind.u64.wrap ((j : Nat) : Int) = j := by decide +kernel
   exact this i (by omega)
  have hfr := wK h1 h2 i
  have hand := wv (b.fdiv (2 ^ i))
  have hsn : ∀ z : Bool, HL.bools (mn b i) ++ [HV.bool z] = HL.bools (mn b i ++ [z]) := fun z => by simp [HL.bools]
  have hXl : (HL.bools (mn b i)).length = i := by rw [HL.bools_len, kU]
  have hXn := kU b i
  have hnx := wc b i
  by_cases hz : b.fdiv (2 ^ i) % 2 = 1
  ·rw [decide_eq_true hz] at hnx
   rw [hz] at hand
   repeat (first | refine ae ?_ | refine ac ?_ | refine au ?_ | refine am ?_ | refine ag ?_ | refine ab ?_ | refine ay ?_ | refine aw ?_)
   refine xu (by rfl) (by (try simp (disch := omega) only [go_sem, Int.reduceAdd, Int.reduceSub, Int.reduceMul, hu]); try rfl) ?_
   refine zQ (by rfl) (by rfl) (by omega) (by (try simp (disch := omega) only [go_sem, Int.reduceAdd, Int.reduceSub, Int.reduceMul, hm, hm2]); try rfl) ?_
   refine zS (by rfl) (by rfl) hand ?_
   repeat (first | refine ae ?_ | refine ac ?_ | refine eh (by rfl) (by rfl) eg ?_ | refine bH (by rfl) (by rfl) (by (try simp (disch := omega) only [go_sem, Int.reduceAdd, Int.reduceSub, Int.reduceMul, hsn]); try rfl) ?_ | refine ab ?_ | refine bV ?_ | refine cn ?_ | refine ec cR (by rfl) cy qa (by (try simp (disch := omega) only [go_sem, reduceIte, Nat.reduceEqDiff, Nat.reduceAdd, Nat.reduceMul, hsn]); try omega) bO (by (try simp (disch := omega) only [go_sem, reduceIte, Nat.reduceEqDiff, Nat.reduceAdd, Nat.reduceMul, hsn]); try rfl) cR (by omega) eZ aP (by (try simp (disch := omega) only [go_sem, reduceIte, Nat.reduceEqDiff, Nat.reduceAdd, Nat.reduceMul, hsn]); try rfl) bh ?_)
   exact bm [0, 1, 5, 6] (i + 1) hin (by omega) (by rw [hnx]; rfl)
  ·have hz0 : b.fdiv (2 ^ i) % 2 = 0 := by omega
   rw [decide_eq_false hz] at hnx
   rw [hz0] at hand
   repeat (first | refine ae ?_ | refine ac ?_ | refine au ?_ | refine am ?_ | refine ag ?_ | refine ab ?_ | refine ay ?_ | refine aw ?_)
   refine xu (by rfl) (by (try simp (disch := omega) only [go_sem, Int.reduceAdd, Int.reduceSub, Int.reduceMul, hu]); try rfl) ?_
   refine zQ (by rfl) (by rfl) (by omega) (by (try simp (disch := omega) only [go_sem, Int.reduceAdd, Int.reduceSub, Int.reduceMul, hm, hm2]); try rfl) ?_
   refine zS (by rfl) (by rfl) hand ?_
   repeat (first | refine ae ?_ | refine ac ?_ | refine eh (by rfl) (by rfl) eg ?_ | refine bH (by rfl) (by rfl) (by (try simp (disch := omega) only [go_sem, Int.reduceAdd, Int.reduceSub, Int.reduceMul, hsn]); try rfl) ?_ | refine ab ?_ | refine bV ?_ | refine cn ?_ | refine ec cR (by rfl) cy qa (by (try simp (disch := omega) only [go_sem, reduceIte, Nat.reduceEqDiff, Nat.reduceAdd, Nat.reduceMul, hsn]); try omega) bO (by (try simp (disch := omega) only [go_sem, reduceIte, Nat.reduceEqDiff, Nat.reduceAdd, Nat.reduceMul, hsn]); try rfl) cR (by omega) eZ aP (by (try simp (disch := omega) only [go_sem, reduceIte, Nat.reduceEqDiff, Nat.reduceAdd, Nat.reduceMul, hsn]); try rfl) bh ?_)
   exact bm [0, 1, 5, 6] (i + 1) hin (by omega) (by rw [hnx]; rfl)
 ·obtain rfl : i = n := by omega
  repeat (first | refine ae ?_ | refine ac ?_ | refine au ?_ | refine aZ (by rfl) ?_ | refine ak ?_ | refine ag ?_ | refine ab ?_)
  refine ar ?_
  rfl
structure BestS (W C : List Int) (nd : List (List Nat)) (B : Int) (k : Nat) (S : List Bool) : Prop where
 sel : Sel C nd B S
 all : ∀ j, j < k -> Sel C nd B (dT j nd.length) -> i7 W C nd.length (dT j nd.length) S = false
theorem BestS.most {W C : List Int} {nd : List (List Nat)} {B : Int} {S : List Bool} (h : BestS W C nd B (2 ^ nd.length) S) {X : List Bool} (hX : Sel C nd B X) : i7 W C nd.length X S = false := by
 obtain ⟨b, hb, he⟩ := oc X
 rw [hX.len] at hb he
 have := h.all b hb (by rw [he]; exact hX)
 rwa [he] at this
theorem Sel.none {C : List Int} {nd : List (List Nat)} {B : Int} (hB : 0 <= B) : Sel C nd B (List.replicate nd.length false) :=
 ⟨by simp, ma _, by rw [ud]; exact hB⟩
theorem BestS.take {W C : List Int} {nd : List (List Nat)} {B : Int} {k : Nat} {S : List Bool} (h : BestS W C nd B k S) (h1 : Sel C nd B (dT k nd.length)) (h2 : i7 W C nd.length (dT k nd.length) S = true) : BestS W C nd B (k + 1) (dT k nd.length) :=
 ⟨h1, fun j hj hs => by
  by_cases e : j = k
  ·subst e; exact p6 _ _ _ _
  ·have h3 := h.all j (by omega) hs
   cases hx : i7 W C nd.length (dT j nd.length) (dT k nd.length) with
   | false => rfl
   | true =>
    rw [oL (by rw [hs.len, h1.len]) (by rw [h1.len, h.sel.len]) hx h2] at h3
    cases h3⟩
end Go.Proofs.Yteamkjblpglliaa
end
section
set_option linter.unusedSimpArgs false
set_option linter.unusedVariables false
namespace Go.Proofs.Yteamkjblpglliaa
open Go.RowKit Go.SL Go.HL
def vH (l : List Nat) : HV := .osl 1 l.length (HL.ints (nl l))
theorem y0 (l : List Nat) (x : Nat) (hl : l.length <= 100000) : HTI Try.prog 50 [.optr [vH l], .int .i64 x] [0] (fun r outs => r = .tup [] /\ outs = [.optr [vH (l ++ [x])]]) := by
 have hln := cL l
 have hlx := cL (l ++ [x])
 have hap : HL.ints (nl l) ++ [HV.int .i64 (x : Int)] = HL.ints (nl (l ++ [x])) := by simp [HL.ints, nl]
 unfold vH
 refine HTI.of rfl IK (Nat.le_of_ble_eq_true rfl) 2 [0] (by rfl) (by rfl) (⟨[(0, .pref 0 [] 0), (1, .int .i64 x)], [(0, .optr [.osl 1 l.length (HL.ints (nl l))])], 1⟩ : St) rfl ?_
 unfold Ke
 refine ab ?_
 repeat (first | refine ae ?_ | refine aB ?_ | refine ac ?_ | refine ax ?_ | refine bv ?_ | refine cn ?_ | refine ec cR (by rfl) cy qa mE bO bh cR (by omega) eZ aP nL bh ?_ | refine ba cy rfl ?_)
 refine fR (rs := [0]) aE d9 kz ?_
 exact ⟨_, rfl, rfl, by simp, rfl, by rw [show (l ++ [x]).length = l.length + 1 by simp]; rfl⟩
theorem xz (x : Nat) : HTI Try.prog 50 [.optr [.nils], .int .i64 x] [0] (fun r outs => r = .tup [] /\ outs = [.optr [vH [x]]]) := by
 unfold vH
 refine HTI.of rfl IK (Nat.le_of_ble_eq_true rfl) 2 [0] (by rfl) (by rfl) (⟨[(0, .pref 0 [] 0), (1, .int .i64 x)], [(0, .optr [.nils])], 1⟩ : St) rfl ?_
 unfold Ke
 refine ab ?_
 repeat (first | refine ae ?_ | refine aB ?_ | refine ac ?_ | refine ax ?_ | refine bv ?_ | refine cn ?_ | refine BN cR (by rfl) cy qa mE (by omega) eZ ?_ | refine ba cy rfl ?_)
 refine fR (rs := [0]) aE d9 kz ?_
 exact ⟨_, rfl, rfl, by simp, rfl, rfl⟩
theorem BD (l : List Nat) (x : Nat) (hl : l.length <= 100000) : HTI Try.prog 51 [.optr [vH (l ++ [x])]] [0] (fun r outs => r = .int .i64 x /\ outs = [.optr [vH l]]) := by
 have hln := cL l
 have hlx := cL (l ++ [x])
 unfold vH
 refine HTI.of rfl Ja (Nat.le_of_ble_eq_true rfl) 1 [0] (by rfl) (by rfl) (⟨[(0, .pref 0 [] 0)], [(0, .optr [.osl 1 (l ++ [x]).length (HL.ints (nl (l ++ [x])))])], 1⟩ : St) rfl ?_
 unfold Kr
 have hl1 : (l ++ [x]).length = l.length + 1 := by simp
 have hx : (l ++ [x]).getD l.length 0 = x := by simp
 rw [hl1]
 repeat (first | refine ae ?_ | refine ac ?_ | refine ag ?_ | refine ab ?_)
 refine bA aS aS (fun _ _ _ => False) ?_
 repeat (first | refine ae ?_ | refine bQ ?_ | refine aB ?_ | refine ac ?_ | refine gw (by rfl) ?_ | refine dQ (by rfl) (by rfl) kK ?_ | refine ax ?_ | refine ba cy rfl ?_)
 have hto : ((l.length + 1 : Nat) : Int) - 1 = l.length := by omega
 have hto2 : (((l.length + 1 : Nat) : Int) - 1).toNat = l.length := by omega
 rw [hto2, hx]
 refine ag ?_
 refine ww 12 aS aS aS (fun _ _ _ => False) ?_
 simp only [List.take_succ_cons, List.take_zero, List.drop_succ_cons, List.drop_zero]
 repeat (first | refine ae ?_ | refine aB ?_ | refine ac ?_ | refine gw (by rfl) ?_ | refine dQ (by rfl) (by rfl) kK ?_ | refine ax ?_ | refine xH (by rfl) (by rfl) (by rfl) (by omega) bh cR ?_ | refine ba cy rfl ?_)
 have htk : (HL.ints (nl (l ++ [x]))).take (l.length * 1) = HL.ints (nl l) := by simp [HL.ints, nl]
 rw [hto2]
 refine tB 27 [0, 3, 16, 27] (⟨[(0, .pref 0 [] 0), (3, .int .i64 x), (16, .pref 0 [] 0), (27, .ref 1 [] 1 0 l.length)], [(0, .optr [.dead]), (1, .osl 1 l.length (HL.ints (nl l)))], 2⟩ : St) rfl rfl rfl (by omega) (HL.ints_flat _) (by decide) (by rw [htk]; rfl) ?_
 repeat (first | refine ae ?_ | refine ac ?_ | refine ag ?_ | refine ab ?_ | refine ax ?_ | refine bv ?_ | refine ba cy rfl ?_)
 refine eG (rs := [2, 0]) aE d9 kz ?_
 exact ⟨_, rfl, rfl, by simp, rfl, rfl⟩
end Go.Proofs.Yteamkjblpglliaa
end
