import Derived.Test.YteamkjblpglliaaClFits
import Derived.Test.YteamkjblpglliaaNet
section
set_option linter.unusedSimpArgs false
set_option linter.unusedVariables false
namespace Go.Proofs.Yteamkjblpglliaa
open Go.RowKit Go.SL Go.HL
structure VW (w : List Int) (needs : List (List Int)) : Prop where
 len : w.length = needs.length
 size : needs.length <= 256
 ws : ∀ i, i < needs.length -> -2147483648 <= w.getD i 0 /\ w.getD i 0 <= 2147483648
 ok : ∀ i, i < needs.length -> ∀ k, k < (needs.getD i []).length -> Ih needs i k
set_option maxHeartbeats 4000000 in
theorem oI (w : List Int) (needs : List (List Int)) (h1 : needs.length <= 9223372036854775807) (h2 : w.length <= 9223372036854775807) (h3 : ∀ i, (needs.getD i []).length <= 9223372036854775807) : HT Try.prog 39 [I w, Gs needs] (fun r => ∃ b, r = .bool b /\ (b = true <-> VW w needs)) := by
 refine HT.of rfl Jr (Nat.le_of_ble_eq_true rfl) ?_
 unfold KS
 simp only [Gs, I, aF, Nat.reduceAdd]
 by_cases hb : w.length = needs.length
 ·by_cases hs : needs.length > 256
  ·repeat (first | refine ae ?_ | refine aI ?_ | refine ac ?_ | refine a8 ?_ | refine aK ?_ | refine aD ?_ | refine am ?_ | refine ag ?_ | refine ab ?_ | refine bq ?_)
   refine ar ?_
   exact ⟨false, rfl, by simp; intro h; have := h.size; omega⟩
  repeat (first | refine ae ?_ | refine aI ?_ | refine ac ?_ | refine a8 ?_ | refine aK ?_ | refine aD ?_ | refine ak ?_ | refine ag ?_ | refine ab ?_ | refine ay ?_ | refine aw ?_ | refine bq ?_)
  refine bc [0, 1, 19, 20, 21] (fun i : Nat => i <= needs.length /\ (∀ j, j < i -> -2147483648 <= w.getD j 0 /\ w.getD j 0 <= 2147483648) /\ ∀ j, j < i -> ∀ k, k < (needs.getD j []).length -> Ih needs j k) (fun i => ⟨[(0, .sl w.length (HL.ints w)), (1, .sl needs.length (aM needs)), (19, .sl needs.length (aM needs)), (20, .int .i64 needs.length), (21, .int .i64 i)], [], 0⟩) (fun i => needs.length - i) 0 ⟨by omega, by omega, by omega⟩ rfl ?_
  rintro i ⟨hi, hwo, ho⟩
  by_cases hin : i < needs.length
  ·have hlen := h3 i
   obtain ⟨x, hx⟩ : ∃ x, w.getD i 0 = x := ⟨_, rfl⟩
   by_cases hx1 : x < -2147483648
   ·repeat (first | refine ae ?_ | refine bE ?_ | refine aL ?_ | refine bl (by rfl) aP (by (try simp (disch := omega) only [go_sem, hx]); try rfl) ?_ | refine ac ?_ | refine au ?_ | refine aJ ?_ | refine am ?_ | refine ag ?_ | refine ab ?_ | refine ay ?_ | refine aw ?_)
    refine ar ?_
    exact ⟨false, rfl, by simp; intro h; have := h.ws i hin; omega⟩
   by_cases hx2 : x > 2147483648
   ·repeat (first | refine ae ?_ | refine aI ?_ | refine aL ?_ | refine bl (by rfl) aP (by (try simp (disch := omega) only [go_sem, hx]); try rfl) ?_ | refine ac ?_ | refine au ?_ | refine aK ?_ | refine am ?_ | refine ag ?_ | refine ab ?_ | refine ay ?_ | refine aw ?_ | refine bq ?_)
    refine ar ?_
    exact ⟨false, rfl, by simp; intro h; have := h.ws i hin; omega⟩
   repeat (first | refine ae ?_ | refine aI ?_ | refine aL ?_ | refine bl (by rfl) aP (by (try simp (disch := omega) only [go_sem, hx]); try rfl) ?_ | refine ac ?_ | refine au ?_ | refine aK ?_ | refine aD ?_ | refine am ?_ | refine ak ?_ | refine ag ?_ | refine ab ?_ | refine ay ?_ | refine aw ?_ | refine bq ?_)
   refine bc [0, 1, 6, 19, 20, 21, 38, 39, 40] (fun k : Nat => k <= (needs.getD i []).length /\ ∀ q, q < k -> Ih needs i q) (fun k => ⟨[(0, .sl w.length (HL.ints w)), (1, .sl needs.length (aM needs)), (6, .sl (needs.getD i []).length (HL.ints (needs.getD i []))), (19, .sl needs.length (aM needs)), (20, .int .i64 needs.length), (21, .int .i64 i), (38, .sl (needs.getD i []).length (HL.ints (needs.getD i []))), (39, .int .i64 (needs.getD i []).length), (40, .int .i64 k)], [], 0⟩) (fun k => (needs.getD i []).length - k) 0 ⟨by omega, by omega⟩ rfl ?_
   rintro k ⟨hk, hq⟩
   by_cases hkl : k < (needs.getD i []).length
   ·have hk1 : ((k : Int) - 1).toNat = k - 1 := by omega
    by_cases c1 : (needs.getD i []).getD k 0 < 0
    ·by_cases hk0 : 0 < k <;>
     ·repeat (first | refine ae ?_ | refine bE ?_ | refine aL ?_ | refine bl (by rfl) aP (by (try simp (disch := omega) only [go_sem, hk1]); try rfl) ?_ | refine ac ?_ | refine au ?_ | refine aJ ?_ | refine am ?_ | refine ag ?_ | refine ab ?_ | refine ay ?_ | refine aw ?_ | refine lX (by rfl) (by rfl) ?_)
      refine ar ?_
      exact ⟨false, rfl, by simp; intro h; have := (h.ok i hin k hkl).1; omega⟩
    by_cases c2 : (needs.getD i []).getD k 0 ≥ needs.length
    ·by_cases hk0 : 0 < k <;>
     ·repeat (first | refine ae ?_ | refine aI ?_ | refine bE ?_ | refine aL ?_ | refine bl (by rfl) aP (by (try simp (disch := omega) only [go_sem, hk1]); try rfl) ?_ | refine ac ?_ | refine au ?_ | refine aJ ?_ | refine aK ?_ | refine aD ?_ | refine am ?_ | refine ag ?_ | refine ab ?_ | refine ay ?_ | refine aw ?_ | refine lX (by rfl) (by rfl) ?_ | refine ef (by rfl) (by rfl) cA ?_)
      refine ar ?_
      exact ⟨false, rfl, by simp; intro h; have := (h.ok i hin k hkl).2.1; omega⟩
    by_cases hk0 : 0 < k
    ·by_cases c3 : (needs.getD i []).getD k 0 <= (needs.getD i []).getD (k - 1) 0
     ·repeat (first | refine ae ?_ | refine aI ?_ | refine aL ?_ | refine bl (by rfl) aP (by (try simp (disch := omega) only [go_sem, hk1]); try rfl) ?_ | refine ac ?_ | refine au ?_ | refine aJ ?_ | refine aK ?_ | refine aD ?_ | refine am ?_ | refine ag ?_ | refine ab ?_ | refine ay ?_ | refine aw ?_ | refine dQ (by rfl) (by rfl) (by (try simp (disch := omega) only [go_sem, Int.reduceAdd, Int.reduceSub, Int.reduceMul, hk1]); try rfl) ?_ | refine fO (by rfl) (by rfl) cA ?_ | refine bq ?_ | refine ef (by rfl) (by rfl) cA ?_)
      refine ar ?_
      exact ⟨false, rfl, by simp; intro h; have := (h.ok i hin k hkl).2.2 hk0; omega⟩
     ·repeat (first | refine ae ?_ | refine aI ?_ | refine aL ?_ | refine bl (by rfl) aP (by (try simp (disch := omega) only [go_sem, hk1]); try rfl) ?_ | refine ac ?_ | refine au ?_ | refine aJ ?_ | refine aK ?_ | refine bH (by rfl) (by rfl) (by (try simp (disch := omega) only [go_sem, Int.reduceAdd, Int.reduceSub, Int.reduceMul, hk1]); try rfl) ?_ | refine aD ?_ | refine am ?_ | refine ak ?_ | refine ag ?_ | refine ab ?_ | refine ay ?_ | refine bV ?_ | refine aw ?_ | refine dQ (by rfl) (by rfl) (by (try simp (disch := omega) only [go_sem, Int.reduceAdd, Int.reduceSub, Int.reduceMul, hk1]); try rfl) ?_ | refine fO (by rfl) (by rfl) cA ?_ | refine bq ?_ | refine ef (by rfl) (by rfl) cA ?_)
      refine bm [0, 1, 6, 19, 20, 21, 38, 39, 40] (k + 1) ⟨hkl, fun q hq' => ?_⟩ (by omega) rfl
      by_cases e : q = k
      ·subst e; exact ⟨by omega, by omega, fun _ => by omega⟩
      ·exact hq q (by omega)
    ·repeat (first | refine ae ?_ | refine aI ?_ | refine bE ?_ | refine aL ?_ | refine bl (by rfl) aP (by (try simp (disch := omega) only [go_sem, hk1]); try rfl) ?_ | refine ac ?_ | refine au ?_ | refine aK ?_ | refine bH (by rfl) (by rfl) (by (try simp (disch := omega) only [go_sem, Int.reduceAdd, Int.reduceSub, Int.reduceMul, hk1]); try rfl) ?_ | refine aD ?_ | refine am ?_ | refine ak ?_ | refine ag ?_ | refine ab ?_ | refine ay ?_ | refine bV ?_ | refine aw ?_ | refine bq ?_ | refine ef (by rfl) (by rfl) cA ?_)
     refine bm [0, 1, 6, 19, 20, 21, 38, 39, 40] (k + 1) ⟨hkl, fun q hq' => ?_⟩ (by omega) rfl
     by_cases e : q = k
     ·subst e; exact ⟨by omega, by omega, fun _ => by omega⟩
     ·exact hq q (by omega)
   ·repeat (first | refine ae ?_ | refine ac ?_ | refine au ?_ | refine bn ?_ | refine aZ (by rfl) ?_ | refine ak ?_ | refine ag ?_ | refine ab ?_ | refine bV ?_)
    refine bm [0, 1, 19, 20, 21] (i + 1) ⟨hin, fun j hj => ?_, fun j hj q hq' => ?_⟩ (by omega) rfl
    ·by_cases e : j = i
     ·subst e; omega
     ·exact hwo j (by omega)
    ·by_cases e : j = i
     ·subst e; exact hq q (by omega)
     ·exact ho j (by omega) q hq'
  ·repeat (first | refine ae ?_ | refine ac ?_ | refine au ?_ | refine aZ (by rfl) ?_ | refine ak ?_ | refine ag ?_ | refine ab ?_)
   refine ar ?_
   exact ⟨true, rfl, by simp; exact ⟨hb, by omega, fun j hj => hwo j (by omega), fun j hj => ho j (by omega)⟩⟩
 ·repeat (first | refine ae ?_ | refine bE ?_ | refine ac ?_ | refine a8 ?_ | refine aJ ?_ | refine aD ?_ | refine am ?_ | refine ag ?_ | refine ab ?_)
  refine ar ?_
  exact ⟨false, rfl, by simp; intro h; exact hb h.len⟩
end Go.Proofs.Yteamkjblpglliaa
end
section
set_option linter.unusedSimpArgs false
set_option linter.unusedVariables false
namespace Go.Proofs.Yteamkjblpglliaa
open Go.RowKit Go.SL
theorem ik {w : World} {g off : Nat} {es : List Edge} (hc : ∀ k u, (eH es)[k]? = some u -> w.cell? ⟨g, off + k, none⟩ = some u) (k : Nat) (hk : k < es.length) :
  w.cell? ⟨g, off + k * 3, none⟩ = some (.int .i64 es[k].f) /\ w.cell? ⟨g, off + k * 3 + 1, none⟩ = some (.int .i64 es[k].t) /\ w.cell? ⟨g, off + k * 3 + 2, none⟩ = some (.int .i64 es[k].c) := by
 obtain ⟨h1, h2, h3⟩ := tU es k hk
 exact ⟨hc _ _ h1, hc _ _ h2, hc _ _ h3⟩
def RetB (p : Prop) (w : World) (e : Ending) (w' : World) : Prop := ∃ b : Bool, e = .returned (.bool b) /\ (b = true <-> p) /\ Below w.heap.size w w'
theorem RetB.no {p : Prop} {w w' : World} (h : ¬ p) (hb : Below w.heap.size w w') : RetB p w (.returned (.bool false)) w' := ⟨false, rfl, by simp [h], hb⟩
theorem RetB.yes {p : Prop} {w w' : World} (h : p) (hb : Below w.heap.size w w') : RetB p w (.returned (.bool true)) w' := ⟨true, rfl, by simp [h], hb⟩
theorem VNet.bounds {n s t : Int} {es : List Edge} (h : VNet n s t es) : 2 <= n /\ n <= 258 /\ 0 <= s /\ s < n /\ 0 <= t /\ t < n /\ ¬ s = t /\ es.length <= 65536 := ⟨h.n2, h.n258, h.s0, h.sn, h.t0, h.tn, h.st, h.len⟩
theorem xc {n : Int} {es : List Edge} {k : Nat} {hk : k < es.length} (h : ∀ j (hj : j < es.length), j < k -> l9 n es[j]) (he : l9 n es[k]) : ∀ j (hj : j < es.length), j < k + 1 -> l9 n es[j] := by
 intro j hj hlt
 rcases Nat.lt_or_ge j k with h1 | h1
 ·exact h j hj h1
 ·obtain rfl : j = k := by omega
  exact he
set_option maxHeartbeats 4000000 in
theorem jK (n : Int) (a : Option Addr) (m cap : Nat) (es : List Edge) (s t : Int) (w : World) (hr : rd w a (eH es)) (hl : es.length = m) (hm : m <= 9223372036854775807) :
  Calls Try.prog 40 #[.int .i64 n, .slice a m cap, .int .i64 s, .int .i64 t] w (RetB (VNet n s t es) w) := by
 by_cases hv : 2 <= n /\ n <= 258 /\ 0 <= s /\ s < n /\ 0 <= t /\ t < n /\ ¬ s = t /\ m <= 65536
 ·obtain ⟨v1, v2, v3, v4, v5, v6, v7, v8⟩ := hv
  have v9 : (s == t) = false := by simpa using v7
  replace hl := Lib.hid hl
  go_enter Try.func40, Try.ntmps40
  go_wp2
  go_loopw [47] (fun i wr => ∃ k : Nat, k <= m /\ i = .int .i64 k /\ (∀ j (hj : j < es.length), j < k -> l9 n es[j]) /\ Below w.heap.size w wr) (fun i _ => m - (intOf i).toNat)
  case atStart => exact ⟨0, Nat.zero_le _, rfl, by intro j hj h; omega, Below.refl _ _⟩
  case round =>
   obtain ⟨k, hk, rfl, hall, hb⟩ := hrel
   replace hall := Lib.hid hall
   by_cases hlt : k < m
   ·have hk' : k < es.length := by have := hl.out; omega
    obtain ⟨g, off, rfl, hg, hc⟩ := (hr.below hb).opened (by rw [fk]; have := hl.out; omega)
    obtain ⟨c1, c2, c3⟩ := ik hc k hk'
    clear hc
    by_cases hev : l9 n es[k]
    ·obtain ⟨x1, x2, x3, x4, x5, x6, x7⟩ := hev
     have y1 : (es[k].f == es[k].t) = false := by simpa using x5
     go_wp2
     go_roundw
     case rel => exact ⟨k + 1, by omega, by go_num, xc hall.out ⟨x1, x2, x3, x4, x5, x6, x7⟩, hb.alloc hb.size _⟩
     case measure => simp []; omega
    ·have hno : ¬ VNet n s t es := fun h => hev (h.all _ (List.getElem_mem _))
     replace hno := Lib.hid hno
     have hev2 := Lib.hid hev
     clear hev
     go_wp2
     all_goals
      first
      | (exfalso; exact hev2.out ⟨by omega, by omega, by omega, by omega, by first | assumption | omega | simpa using ‹_›, by omega, by omega⟩)
      | (go_ret; exact RetB.no hno.out (hb.alloc hb.size _))
   ·go_wp2
    go_ret
    have : k = m := by omega
    subst this
    exact RetB.yes ⟨v1, v2, v3, v4, v5, v6, v7, by rw [hl.out]; exact v8, fun e he => by
     obtain ⟨j, hj, rfl⟩ := List.getElem_of_mem he
     exact hall.out j hj (by rw [<- hl.out]; exact hj)⟩ hb
 ·go_enter Try.func40, Try.ntmps40
  go_wp2
  all_goals
   go_ret
   refine RetB.no (fun h => ?_) (Below.refl _ _)
   have := h.bounds
   first | omega | (simp at *; omega)
end Go.Proofs.Yteamkjblpglliaa
end
section
set_option linter.unusedSimpArgs false
set_option linter.unusedVariables false
namespace Go.Proofs.Yteamkjblpglliaa
open Go.RowKit Go.SL
def gU (set : List Bool) (e : Edge) : Bool := decide (0 <= e.f) && (decide (0 <= e.t) && ((set[e.f.toNat]?.getD false) && !(set[e.t.toNat]?.getD true)))
def o9 (set : List Bool) (x : Int) (e : Edge) : Int := if gU set e then wrap64 (x + e.c) else x
def wz (set : List Bool) (es : List Edge) : Int := es.foldl (o9 set) 0
theorem vb (set : List Bool) (es : List Edge) (k : Nat) (hk : k < es.length) : wz set (es.take (k + 1)) = o9 set (wz set (es.take k)) es[k] := by
 unfold wz
 rw [List.take_succ_eq_append_getElem hk, List.foldl_append]
 rfl
theorem ints_get (l : List Int) (k : Nat) (hk : k < l.length) : (ints l)[k]? = some (.int .i64 l[k]) := by simp [hk]
end Go.Proofs.Yteamkjblpglliaa
end
section
set_option linter.unusedSimpArgs false
set_option linter.unusedVariables false
namespace Go.Proofs.Yteamkjblpglliaa
theorem bg {α : Type} (l : List α) (d : α) {k : Nat} (h : k < l.length) : l.getD k d = l[k] := by simp [h]
theorem gS {α : Type} (l : List α) (d : α) {k : Nat} (h : l.length <= k) : l.getD k d = d := by simp [h]
theorem db {α : Type} (l : List α) (d x : α) {k : Nat} (h : k < l.length) : (l.set k x).getD k d = x := by simp [h]
theorem bB {α : Type} (l : List α) (d x : α) {k j : Nat} (h : j ≠ k) : (l.set k x).getD j d = l.getD j d := by
 simp [List.getElem?_set_ne (by omega : k ≠ j)]
end Go.Proofs.Yteamkjblpglliaa
end
