import Derived.Test.YteamkjblpglliaaCodesAbridgeBudget
import Derived.Test.YteamkjblpglliaaHlMv
import Derived.Test.YteamkjblpglliaaAbP
import Derived.Test.YteamkjblpglliaaHb
section
set_option linter.unusedSimpArgs false
set_option linter.unusedVariables false
namespace Go.Proofs.Yteamkjblpglliaa
open Go.RowKit Go.SL Go.HL
theorem rI (l : List Int) (hl : l.length <= 9223372036854775807) (hr : ∀ k, k < l.length -> -9223372036854775808 <= l.getD k 0 /\ l.getD k 0 <= 9223372036854775807) : HT Try.prog 9 [I l] (fun r => ∃ W C nd B, Pb W C nd B /\ nd.length <= 9 /\ B < 40 /\ r = .agg (jh W C nd B)) := by
 refine rF l hl hr _ fun W C nd i B hP hn hB => ?_
 have hWl := hP.lw
 have hCl := hP.lc
 have hnl := hP.ln
 unfold Io
 have hE : (aW (HL.ints W), aW (HL.ints C), aW (cx nd)) = (HL.ints W, HL.ints C, aM (nd.map nl)) := by rw [HL.ints_strip, HL.ints_strip, jF]
 refine gH 1 [2, 4] (⟨[(2, .pref 0 [] 0), (4, .ptr [.sl i (HL.ints W), .sl i (HL.ints C), .sl i (aM (nd.map nl)), .int .i64 B] 0)], [(0, .optr [.nils, .nils, .nils, .int .i64 0])], 1⟩ : St) (congrArg (fun p : List HV × List HV × List HV => (⟨[(2, .pref 0 [] 0), (4, .ptr [.sl i p.1, .sl i p.2.1, .sl i p.2.2, .int .i64 B] 0)], [(0, .optr [.nils, .nils, .nils, .int .i64 0])], 1⟩ : St)) hE) ?_
 repeat (first | refine ac ?_ | refine ag ?_ | refine ab ?_ | refine AO (by rfl) aP nL ?_ | refine bv ?_)
 refine ar ?_
 refine ⟨_, _, rfl, rfl, W, C, nd, B, hP.pb (by omega) hB, by omega, by omega, ?_⟩
 unfold jh I Gs
 rw [hWl, hCl, List.length_map, hnl]
 rfl
theorem Pb.budget {W C : List Int} {nd : List (List Nat)} {B : Int} (h : Pb W C nd B) (B' : Int) (h0 : 0 <= B') (h1 : B' <= 268435456) : Pb W C nd B' := ⟨h.lw, h.lc, h.w, h.c, ⟨h0, h1⟩, h.g⟩
theorem na : ∀ k, dT (2 ^ k - 1) k = List.replicate k true
 | 0 => rfl
 | k + 1 => by
  have h2 : 2 ^ (k + 1) = 2 * 2 ^ k := by rw [Nat.pow_succ, Nat.mul_comm]
  have hp := Nat.two_pow_pos k
  rw [dT, show (2 ^ (k + 1) - 1) / 2 = 2 ^ k - 1 by omega, na k, List.replicate_succ, decide_eq_true (show (2 ^ (k + 1) - 1) % 2 = 1 by omega)]
theorem sr {nd : List (List Nat)} {bad : List Bool} (g : Gr nd bad) : bK nd (List.replicate nd.length true) := fun u _ j hj => kD (g.lt u j hj)
theorem xj {w : List Int} (hw : ∀ i, 0 <= w.getD i 0) {n : Nat} {X : List Bool} (hX : X.length = n) : wS w X n <= wS w (List.replicate n true) n := ni hw (fun u hu => by
 by_cases h : u < n
 ·exact kD h
 ·rw [List.getD_eq_getElem?_getD, List.getElem?_eq_none (by omega)] at hu; cases hu) n
def I4 (n : Nat) (A : List Bool) (f0 : FuncId) : FuncId -> List HV -> HV -> Prop := fun f xs r => if f = f0 then r = .osl 1 n (HL.bools A) else va n f xs r
theorem lz {n : Nat} {A : List Bool} {f0 f : FuncId} {L : List Int} {X : List Bool} {r : HV} (hne : f ≠ f0) : I4 n A f0 f [.sl n (HL.ints L), .sl n (HL.bools X)] r <-> r = .int .i64 (wS L X n) := by
 unfold I4; rw [if_neg hne]
 exact ⟨cB, fun h => ⟨L, X, rfl, h⟩⟩
set_option maxHeartbeats 16000000 in
theorem pR (l : List Int) (more : Int) (hl : l.length <= 9223372036854775807) (hr : ∀ k, k < l.length -> -9223372036854775808 <= l.getD k 0 /\ l.getD k 0 <= 9223372036854775807) (hm : -9223372036854775808 <= more /\ more <= 9223372036854775807) : HT Try.prog 8 [I l, .int .i64 more] (fun r => r = .bool true) := by
 refine HT.of rfl Ld (Nat.le_of_ble_eq_true rfl) ?_
 unfold c8
 simp only [I, aF, Nat.reduceAdd]
 repeat (first | refine ae ?_ | refine ac ?_ | refine ag ?_ | refine ab ?_)
 refine aX aE cI (rI l hl hr) ?_
 rintro _ ⟨W, C, nd, B, h, hn9, hB40, rfl⟩
 have hsz := h.g.size
 have hlw := h.lw
 have hlc := h.lc
 have hB := h.b
 have hnl : (nd.map nl).length = nd.length := by simp
 have hso := kF h 1024 (by omega) (by omega)
 simp only [jh, I, Gs, hlw, hlc, hnl] at hso ⊢
 refine ⟨ce, _, _, _, _, _, bT, (by decide), aN, ?_⟩
 repeat (first | refine ac ?_ | refine ag ?_ | refine ab ?_ | refine bw ?_ | refine bv ?_ | refine dI cR ?_)
 refine bA aS aS (fun _ _ r => ∃ y : Nat, r = .int .i64 y /\ y < 30) ?_
 repeat (first | refine ae ?_ | refine aB ?_ | refine ax ?_)
 refine bk aE cI (jO more 30 (by omega) (by omega) hm.1 hm.2) ⟨.int .i64 (0 : Nat), ⟨0, rfl, by omega⟩, rfl⟩ ?_
 rintro _ ⟨y, rfl, hy⟩ -
 refine ⟨ce, _, _, _, _, _, bT, (by decide), aN, ?_⟩
 have h2 := h.budget (B + y) (by omega) (by omega)
 have hso2 := kF h2 1024 (by omega) (by omega)
 simp only [jh, I, Gs, hlw, hlc, hnl] at hso2
 repeat (first | refine ac ?_ | refine bn ?_ | refine ag ?_ | refine ab ?_ | refine ax ?_ | refine bw ?_ | refine gT ?_)
 refine aX aE cI (hso) ?_
 rintro _ ⟨s, b, rfl, hS⟩
 obtain rfl : b = true := hS.enough (by omega) hn9
 unfold sF
 refine ⟨ce, _, _, _, _, _, bT, (by decide), aN, ?_⟩
 repeat (first | refine ae ?_ | refine ac ?_ | refine br ?_ | refine ag ?_ | refine ab ?_ | refine bw ?_ | refine bv ?_ | refine dI cR ?_)
 refine aX aE cI (hso2) ?_
 rintro _ ⟨s2, b, rfl, hS2⟩
 obtain rfl : b = true := hS2.enough (by omega) hn9
 unfold sF
 refine ⟨ce, _, _, _, _, _, bT, (by decide), aN, ?_⟩
 repeat (first | refine ae ?_ | refine ac ?_ | refine br ?_ | refine bv ?_ | refine dI cR ?_)
 refine dA [4, 5, 7, 8, 9, 10] (⟨[(4, .bool false), (5, .pref 0 [] 0), (7, .pref 1 [] 0), (8, .int .i64 0), (9, .pref 2 [] 0), (10, .int .i64 0)], [(0, .optr [.sl nd.length (HL.ints W), .sl nd.length (HL.ints C), .sl nd.length (aM (nd.map nl)), .int .i64 B]), (1, .optr [.sl nd.length (HL.bools s.best), .int .i64 (wS W s.best nd.length), .int .i64 (wS C s.best nd.length), .int .i64 s.num, .int .i64 s.den, .sl s.flow.length (HL.ints s.flow), .int .i64 s.value, .bool true]), (2, .optr [.sl nd.length (HL.bools s2.best), .int .i64 (wS W s2.best nd.length), .int .i64 (wS C s2.best nd.length), .int .i64 s2.num, .int .i64 s2.den, .sl s2.flow.length (HL.ints s2.flow), .int .i64 s2.value, .bool true])], 3⟩ : St) rfl ?_
 obtain ⟨q, hq, hsu, hss, hq1, hq2⟩ := w9 nd.length hn9
 have hset := xg nd.length ((q : Int) - 1) (by omega) (by omega) (by omega)
 rw [show (q : Int) - 1 = ((2 ^ nd.length - 1 : Nat) : Int) by omega, BX, na, <- show (q : Int) - 1 = ((2 ^ nd.length - 1 : Nat) : Int) by omega] at hset
 obtain ⟨A, hA⟩ : ∃ A, List.replicate nd.length true = A := ⟨_, rfl⟩
 have hal : A.length = nd.length := by rw [<- hA]; simp
 have hcA : bK nd A := hA ▸ sr h.g
 rw [hA] at hset
 have oC := qD C A h.cok (by omega) (by omega)
 have oW := qD W A h.wok (by omega) (by omega)
 simp only [I, Bl, hlw, hlc, hal] at oC oW
 have bC := fD h.c A nd.length
 have bW := fD h.w A nd.length
 obtain ⟨CA, hCA⟩ : ∃ x, wS C A nd.length = x := ⟨_, rfl⟩
 obtain ⟨WA, hWA⟩ : ∃ x, wS W A nd.length = x := ⟨_, rfl⟩
 rw [hCA] at bC
 rw [hWA] at bW
 have h3 := h.budget CA (by omega) (by omega)
 have hso3 := kF h3 0 (by omega) (by omega)
 have hw0 : WOK (dg W C 0 1) := fun i => by
  by_cases hi : i < W.length
  ·rw [kV W C 0 1 hi]
   have := h.w i
   omega
  ·rw [List.getD_eq_getElem?_getD, List.getElem?_eq_none (by rw [kT]; omega)]; simp
 have hdu := ur h3 0 1 ⟨by omega, by omega⟩ hw0
 simp only [jh, I, Gs, hlw, hlc, hnl] at hso3 hdu
 repeat (first | refine ac ?_ | refine ag ?_ | refine ab ?_ | refine bw ?_ | refine bv ?_ | refine dI cR ?_)
 refine bA aS aS (I4 nd.length A 24) ?_
 repeat (first | refine dw (by rfl) bO (by (try simp (disch := omega) only [go_sem, reduceIte, Nat.reduceEqDiff, Nat.reduceAdd, Nat.reduceMul, hss]); try rfl) aP (by (try simp (disch := omega) only [go_sem, hss]); try rfl) cy ?_ | refine aD ?_ | refine dQ (by rfl) (by rfl) (by (try simp (disch := omega) only [go_sem, Int.reduceAdd, Int.reduceSub, Int.reduceMul, hss]); try rfl) ?_ | refine zZ (by rfl) (by rfl) (by omega) (by (try simp (disch := omega) only [go_sem, Int.reduceAdd, Int.reduceSub, Int.reduceMul, hss]); try rfl) ?_ | refine ax ?_)
 refine bk aE cI (hset.mono fun r h => h) ⟨_, rfl, kr _⟩ ?_
 rintro r hr -
 obtain rfl : r = .osl 1 nd.length (HL.bools A) := hr
 refine ⟨ce, _, _, _, _, _, bT, (by decide), aN, ?_⟩
 skip
 refine bk aE cI (oC.mono fun r h => (lz (by decide)).2 h) ⟨_, (lz (by decide)).2 rfl, rfl⟩ ?_
 rintro r hr -
 obtain rfl := (lz (by decide)).1 hr
 rw [hCA]
 refine ⟨ce, _, _, _, _, _, bT, (by decide), aN, ?_⟩
 repeat (first | refine ac ?_ | refine ag ?_ | refine ab ?_ | refine ax ?_ | refine bw ?_ | refine gT ?_)
 refine aX aE cI (hso3) ?_
 rintro _ ⟨s3, b, rfl, hS3⟩
 obtain rfl : b = true := hS3.all (by rw [hA]; omega)
 unfold sF
 refine ⟨ce, _, _, _, _, _, bT, (by decide), aN, ?_⟩
 repeat (first | refine ae ?_ | refine ac ?_ | refine br ?_ | refine bv ?_ | refine dI cR ?_)
 refine dA [4, 5, 7, 8, 9, 10, 11, 12, 13] (⟨[(4, .bool false), (5, .pref 0 [] 0), (7, .pref 1 [] 0), (8, .int .i64 0), (9, .pref 2 [] 0), (10, .int .i64 0), (11, .pref 3 [] 0), (12, .pref 4 [] 0), (13, .int .i64 0)], [(0, .optr [.sl nd.length (HL.ints W), .sl nd.length (HL.ints C), .sl nd.length (aM (nd.map nl)), .int .i64 B]), (1, .optr [.sl nd.length (HL.bools s.best), .int .i64 (wS W s.best nd.length), .int .i64 (wS C s.best nd.length), .int .i64 s.num, .int .i64 s.den, .sl s.flow.length (HL.ints s.flow), .int .i64 s.value, .bool true]), (2, .optr [.sl nd.length (HL.bools s2.best), .int .i64 (wS W s2.best nd.length), .int .i64 (wS C s2.best nd.length), .int .i64 s2.num, .int .i64 s2.den, .sl s2.flow.length (HL.ints s2.flow), .int .i64 s2.value, .bool true]), (3, .optr [.sl nd.length (HL.ints W), .sl nd.length (HL.ints C), .sl nd.length (aM (nd.map nl)), .int .i64 CA]), (4, .optr [.sl nd.length (HL.bools s3.best), .int .i64 (wS W s3.best nd.length), .int .i64 (wS C s3.best nd.length), .int .i64 s3.num, .int .i64 s3.den, .sl s3.flow.length (HL.ints s3.flow), .int .i64 s3.value, .bool true])], 5⟩ : St) rfl ?_
 repeat (first | refine ag ?_ | refine ab ?_ | refine bw ?_)
 refine aX aE cI (hdu) ?_
 rintro _ ⟨fl, set, value, hD, rfl⟩
 simp only [I]
 refine ⟨ce, _, _, _, _, _, bT, (by decide), aN, ?_⟩
 repeat (first | refine ae ?_ | refine ac ?_ | refine br ?_ | refine ag ?_)
 refine bA aS aS (I4 nd.length A 24) ?_
 repeat (first | refine dw (by rfl) bO (by (try simp (disch := omega) only [go_sem, reduceIte, Nat.reduceEqDiff, Nat.reduceAdd, Nat.reduceMul, hss]); try rfl) aP (by (try simp (disch := omega) only [go_sem, hss]); try rfl) cy ?_ | refine aD ?_ | refine dQ (by rfl) (by rfl) (by (try simp (disch := omega) only [go_sem, Int.reduceAdd, Int.reduceSub, Int.reduceMul, hss]); try rfl) ?_ | refine zZ (by rfl) (by rfl) (by omega) (by (try simp (disch := omega) only [go_sem, Int.reduceAdd, Int.reduceSub, Int.reduceMul, hss]); try rfl) ?_ | refine ax ?_)
 refine bk aE cI (hset.mono fun r h => h) ⟨_, rfl, kr _⟩ ?_
 rintro r hr -
 obtain rfl : r = .osl 1 nd.length (HL.bools A) := hr
 refine ⟨ce, _, _, _, _, _, bT, (by decide), aN, ?_⟩
 skip
 refine bk aE cI (oW.mono fun r h => (lz (by decide)).2 h) ⟨_, (lz (by decide)).2 rfl, rfl⟩ ?_
 rintro r hr -
 obtain rfl := (lz (by decide)).1 hr
 rw [hWA]
 refine ⟨ce, _, _, _, _, _, bT, (by decide), aN, ?_⟩
 have e1 : wS W s.best nd.length <= wS W s2.best nd.length := oM (hS2.best rfl s.best ⟨hS.sel.len, hS.sel.closed, by have := hS.sel.cost; omega⟩)
 have e2 : wS W s3.best nd.length = WA := by
  have a1 := oM (hS3.best rfl A ⟨hal, hcA, by omega⟩)
  have a2 := hA ▸ xj (fun i => (h.w i).1) hS3.sel.len
  omega
 have e3 : gL W C nd CA 0 1 (set.take nd.length) = WA := by
  have a1 := hD.max.most _ hal hcA
  have a2 := hA ▸ xj (fun i => (h.w i).1) hD.max.len
  rw [gJ _ _ _ _ _ _ (by omega), gJ _ _ _ _ _ _ (by omega)] at a1
  unfold gL
  rw [gJ _ _ _ _ _ _ (by omega)]
  omega
 rw [e2, e3]
 repeat (first | refine ae ?_ | refine aI ?_ | refine aB ?_ | refine ac ?_ | refine eh (by rfl) (by rfl) eg ?_ | refine aJ ?_ | refine ag ?_ | refine ab ?_ | refine ef (by rfl) (by rfl) cA ?_ | refine ax ?_)
 refine aX aE cI (tQ) ?_
 rintro _ rfl
 refine ⟨ce, _, _, _, _, _, bT, (by decide), aN, ?_⟩
 repeat (first | refine ae ?_ | refine ac ?_ | refine aJ ?_)
 refine ar ?_
 rfl
end Go.Proofs.Yteamkjblpglliaa
end
section
set_option linter.unusedSimpArgs false
set_option linter.unusedVariables false
namespace Go.Proofs.Yteamkjblpglliaa
open Go.RowKit Go.SL Go.HL
def mr (l : List Int) : List Value := l.map fun n => .int .i64 n
theorem qq {F : Nat -> Prop} {h : Hp} {R : HV -> Value -> Prop} (l : List Int) : OW F h R (HL.ints l) (mr l) [] := by
 induction l with
 | nil => exact .nil
 | cons x r ih => exact .int ih
theorem yP {w : World} {a : Option Addr} {len cap : Nat} {zs : List Int} (h : (a = none /\ len = 0 /\ cap = 0 /\ zs = []) \/
  ∃ x, a = some x /\ len <= cap /\ cap <= maxLen /\ zs.length = cap /\ (∀ i, i < zs.length -> w.cell? (x.add i) = some (.int .i64 (zs.getD i 0))) /\ ∀ n ∈ zs, (Lit.int .i64 n).wf = true) :
  OW (fun b => b < w.heap.size) w.heap bI [I (zs.take len)] [.slice a len cap] [] /\ (zs.take len).length = len /\ len <= 9223372036854775807 := by
 have hl : (zs.take len).length = len := by
  rcases h with ⟨_, rfl, _, rfl⟩ | ⟨x, _, h1, _, h3, _⟩
  ·rfl
  ·simp; omega
 have hm : len <= 9223372036854775807 := by
  rcases h with ⟨_, rfl, _, rfl⟩ | ⟨x, _, h1, h2, _⟩
  ·omega
  ·unfold maxLen at h2; omega
 refine ⟨?_, hl, hm⟩
 unfold I
 rw [hl]
 rcases Nat.eq_zero_or_pos len with rfl | hp
 ·exact .sl0 .nil
 ·rcases h with ⟨_, h0, _⟩ | ⟨x, rfl, h1, h2, h3, h4, -⟩
  ·omega
  ·have h0 := h4 0 (by omega)
   obtain ⟨g, off, spot⟩ := x
   obtain ⟨cur, e, fr, hg, hs⟩ : ∃ cur e fr, w.heap[g]? = some (.cells cur e fr) /\ spot = none := by
    simp only [Addr.add, if_true, World.cell?] at h0
    split at h0
    ·rename_i cur e fr hg
     split at h0
     ·cases h0
     ·rename_i hn; exact ⟨_, _, _, hg, by simpa using hn⟩
    ·cases h0
   subst hs
   have hcell : ∀ k, k < len -> cur[off + k]? = some (.int .i64 (zs.getD k 0)) := by
    intro k hk
    have h5 := h4 k (by omega)
    have e1 : (⟨g, off, none⟩ : Addr).add k = ⟨g, off + k, none⟩ := by
     unfold Addr.add; split
     ·rename_i h; subst h; rfl
     ·rfl
    rw [e1] at h5
    simpa only [World.cell?, hg, Option.isSome_none, Bool.false_eq_true, if_false] using h5
   have hrv : mr (zs.take len) = (cur.toList.drop off).take (HL.ints (zs.take len)).length := by
    rw [HL.ints_len, hl]
    apply List.ext_getElem?
    intro k
    by_cases hk : k < len
    ·rw [List.getElem?_take, if_pos hk, List.getElem?_drop]
     have := hcell k hk
     rw [show cur.toList[off + k]? = cur[off + k]? from by simp, this]
     rw [mr, List.getElem?_map, List.getElem?_take, if_pos hk, List.getElem?_eq_getElem (by omega)]
     simp [List.getD_eq_getElem?_getD, List.getElem?_eq_getElem (show k < zs.length by omega)]
    ·rw [List.getElem?_eq_none (by simp [mr]; omega), List.getElem?_eq_none (by simp; omega)]
   exact .sl (F := fun b => b < w.heap.size) (Array.getElem?_eq_some_iff.1 hg).1 hg hrv h1 (qq _) .nil
theorem yB {P : Program} {f : FuncId} {args : List HV} {rargs : List Value} {w : World} (h : HT P f args (fun r => r = .bool true)) (ho : OW (fun b => b < w.heap.size) w.heap bI args rargs []) :
  Calls P f rargs.toArray w fun e w' => e = .returned (.bool true) /\ Below w.heap.size w w' := by
 refine (h.2 w rargs _ (fun b hb => hb) ho).mono ?_
 rintro e w' ⟨rv, res, fs, rfl, rfl, h1, _, _, hb⟩
 rw [dY h1]
 exact ⟨rfl, hb⟩
theorem xn {F : Nat -> Prop} {h : Hp} {v : HV} {r : List HV} {rv : Value} {rr : List Value} (h1 : OW F h bI [v] [rv] []) (h2 : OW F h bI r rr []) : OW F h bI (v :: r) (rv :: rr) [] := h1.cons1 h2
theorem yO {F : Nat -> Prop} {h : Hp} {r : List HV} {rr : List Value} {k : IntKind} {n : Int} (h2 : OW F h bI r rr []) : OW F h bI (.int k n :: r) (.int k n :: rr) [] := .int h2
end Go.Proofs.Yteamkjblpglliaa
end
section
set_option linter.unusedSimpArgs false
set_option linter.unusedVariables false
namespace Go.Proofs.Yteamkjblpglliaa
open Go.RowKit Go.HL
theorem uc {n : Int} (h : (Lit.int .i64 n).wf = true) : -9223372036854775808 <= n /\ n <= 9223372036854775807 := by
 simp only [Lit.wf, Bool.and_eq_true, decide_eq_true_eq] at h
 have e1 : IntKind.i64.min = -9223372036854775808 := rfl
 have e2 : IntKind.i64.max = 9223372036854775807 := rfl
 rw [e1, e2] at h
 exact h
theorem yN {w : World} {a : Option Addr} {len cap : Nat} {zs : List Int} (h : (a = none /\ len = 0 /\ cap = 0 /\ zs = []) \/
  ∃ x, a = some x /\ len <= cap /\ cap <= maxLen /\ zs.length = cap /\ (∀ i, i < zs.length -> w.cell? (x.add i) = some (.int .i64 (zs.getD i 0))) /\ ∀ n ∈ zs, (Lit.int .i64 n).wf = true) :
  ∀ k, k < (zs.take len).length -> -9223372036854775808 <= (zs.take len).getD k 0 /\ (zs.take len).getD k 0 <= 9223372036854775807 := by
 intro k hk
 have hm : (zs.take len).getD k 0 ∈ zs := by
  rw [List.getD_eq_getElem?_getD, List.getElem?_eq_getElem hk, Option.getD_some]
  exact List.mem_of_mem_take (List.getElem_mem hk)
 rcases h with ⟨_, _, _, rfl⟩ | ⟨x, _, _, _, _, _, h⟩
 ·cases hm
 ·exact uc (h _ hm)
end Go.Proofs.Yteamkjblpglliaa
end
