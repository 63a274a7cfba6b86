import Derived.Test.YteamkjblpglliaaClNet
import Derived.Test.YteamkjblpglliaaClClsd
import Derived.Test.YteamkjblpglliaaClHull
import Derived.Test.YteamkjblpglliaaAbX
section
set_option linter.unusedSimpArgs false
set_option linter.unusedVariables false
namespace Go.Proofs.Yteamkjblpglliaa
open Go.RowKit Go.SL Go.HL
end Go.Proofs.Yteamkjblpglliaa
end
section
set_option linter.unusedSimpArgs false
set_option linter.unusedVariables false
namespace Go.Proofs.Yteamkjblpglliaa
open Go.RowKit Go.SL Go.HL
end Go.Proofs.Yteamkjblpglliaa
end
section
set_option linter.unusedSimpArgs false
set_option linter.unusedVariables false
namespace Go.Proofs.Yteamkjblpglliaa
open Go.RowKit Go.SL Go.HL
structure Sn where
 set : List Bool
 worth : Int
 cost : Int
 num : Int
 den : Int
 flow : List Int
 bound : Int
 exact : Bool
def I5 (s : Sn) : List HV := [Bl s.set, .int .i64 s.worth, .int .i64 s.cost, .int .i64 s.num, .int .i64 s.den, I s.flow, .int .i64 s.bound, .bool s.exact]
structure GM (W C : List Int) (nd : List (List Nat)) (B : Int) (s : Sn) : Prop where
 sel : Sel C nd B s.set
 cost : wS C s.set nd.length = s.cost
 worth : wS W s.set nd.length = s.worth
 mul : qb s.num s.den
 wok : WOK (dg W C s.num s.den)
def Jy (W C : List Int) (nd : List (List Nat)) (B : Int) (s : Sn) (e : Int) : Prop :=
 (¬ GM W C nd B s /\ e = 24) \/ (GM W C nd B s /\ ∃ x y, BoundR (dg W C s.num s.den) nd s.flow x y /\ ((y = 0 /\ (x + s.num * B) / s.den = s.bound /\ e = 0) \/ (¬ (y = 0 /\ (x + s.num * B) / s.den = s.bound) /\ e = 24)))
def JN (n : Nat) (f0 : FuncId) (q : Bool) : FuncId -> List HV -> HV -> Prop := fun f xs r => (f = f0 -> r = .bool q) /\ (f ≠ f0 -> va n f xs r)
theorem lF {n : Nat} {f0 f : FuncId} {q : Bool} {L : List Int} {X : List Bool} {r : HV} (hne : f ≠ f0) : JN n f0 q f [.sl n (HL.ints L), .sl n (HL.bools X)] r <-> r = .int .i64 (wS L X n) :=
 ⟨fun h => cB (h.2 hne), fun h => ⟨fun e => absurd e hne, fun _ => ⟨L, X, rfl, h⟩⟩⟩
theorem chD_q {n : Nat} {f0 : FuncId} {q : Bool} {xs : List HV} {r : HV} : JN n f0 q f0 xs r <-> r = .bool q := ⟨fun h => h.1 rfl, fun h => ⟨fun _ => h, fun e => absurd rfl e⟩⟩
open Classical in
open Classical in
theorem BoundR.bd {w : List Int} {nd : List (List Nat)} {bad : List Bool} {fl : List Int} {x y : Int} (g : Gr nd bad) (hw : WOK w) (h : BoundR w nd fl x y) : -100000000000000000 <= x /\ x <= 100000000000000000 := by
 have hv := kS g hw
 have hsz := g.size
 have hNl := jy g w
 have hN2 : nd.length * nd.length <= 256 * 256 := Nat.mul_le_mul hsz hsz
 have hp := mp hw nd.length
 rcases h with ⟨_, rfl, _⟩ | ⟨_, v, e, hR, h⟩
 ·omega
 ·have hbd := hR.bd (fun e he => (hv.all e he).2.2.2.2.2.2) (by omega)
  rcases h with ⟨_, rfl, _⟩ | ⟨_, rfl, _⟩ <;> omega
set_option maxHeartbeats 8000000 in
theorem yc {W C : List Int} {nd : List (List Nat)} {B : Int} (h : Pb W C nd B) (s : Sn) (hs : s.set.length <= 9223372036854775807) : HT Try.prog 26 [.agg (jh W C nd B), .agg (I5 s)] (fun r => ∃ e, r = .int .i64 e /\ Jy W C nd B s e) := by
 have hsz := h.g.size
 have hlw := h.lw
 have hlc := h.lc
 have hB := h.b
 have hnl : (nd.map nl).length = nd.length := by simp
 have hav := jI h
 have hcl := u9 (nd.map nl) s.set (by omega) hs (fun i => by rw [cY, cL]; have := h.g.len i; omega)
 simp only [I, Gs, Bl, jh, hlw, hlc, hnl] at hav hcl
 have out : ¬ GM W C nd B s -> ∃ e : Int, HV.int .i64 24 = .int .i64 e /\ Jy W C nd B s e := fun h => ⟨24, rfl, .inl ⟨h, rfl⟩⟩
 refine HT.of rfl JA (Nat.le_of_ble_eq_true rfl) ?_
 unfold KU
 simp only [I5, I, Gs, Bl, jh, aF, Nat.reduceAdd, hlw, hlc, hnl]
 repeat (first | refine ae ?_ | refine ac ?_ | refine ag ?_ | refine ab ?_ | refine bw ?_ | refine fK cR cy bh jk (by rfl) ?_)
 refine aX aE cI (hav) ?_
 rintro _ rfl
 refine ⟨ce, _, _, _, _, _, bT, (by decide), aN, ?_⟩
 repeat (first | refine ac ?_ | refine ak ?_ | refine ag ?_ | refine aw ?_ | refine dh (by rfl) ?_)
 refine bA aS aS (JN nd.length 28 (iP (nd.map nl) s.set)) ?_
 repeat (first | refine aB ?_ | refine ax ?_)
 refine bk aE cI (hcl.mono fun r h => chD_q.2 h) ⟨_, chD_q.2 rfl, rfl⟩ ?_
 rintro r hr -
 obtain rfl := chD_q.1 hr
 refine ⟨ce, _, _, _, _, _, bT, (by decide), aN, ?_⟩
 cases hcb : iP (nd.map nl) s.set with
 | false =>
  repeat (first | refine ae ?_ | refine bE ?_ | refine ac ?_ | refine aJ ?_ | refine am ?_ | refine ag ?_ | refine ab ?_ | refine dR (by rfl) ?_)
  refine ar ?_
  refine out fun hA => ?_
  rw [(l7 (mB h.g hA.sel.len)).2 (closedN_Y.2 hA.sel.closed)] at hcb
  cases hcb
 | true =>
  have hf : fM (nd.map nl) s.set = true := by
   cases hf : fM (nd.map nl) s.set with
   | true => rfl
   | false => unfold iP at hcb; rw [hf] at hcb; cases hcb
  have hl : s.set.length = nd.length := by rw [<- (mD hf).1, hnl]
  have hC := closedN_Y.1 ((l7 hf).1 hcb)
  have o1 := bS C s.set h.cok (by omega) (by omega)
  have o2 := bS W s.set h.wok (by omega) (by omega)
  simp only [I, Bl, hlc, hlw, hl] at o1 o2
  rw [hl]
  repeat (first | refine ae ?_ | refine aI ?_ | refine aB ?_ | refine dh (by rfl) ?_ | refine ax ?_)
  refine bk aE cI (o1.mono fun r h => (lF (by decide)).2 h) ⟨_, (lF (by decide)).2 rfl, rfl⟩ ?_
  rintro r hr -
  obtain rfl := (lF (by decide)).1 hr
  refine ⟨ce, _, _, _, _, _, bT, (by decide), aN, ?_⟩
  by_cases hc : wS C s.set nd.length = s.cost
  ·by_cases hcB : s.cost <= B
   ·repeat (first | refine ae ?_ | refine aI ?_ | refine aB ?_ | refine a8 ?_ | refine aK ?_ | refine bq ?_ | refine ax ?_)
    refine bk aE cI (o2.mono fun r h => (lF (by decide)).2 h) ⟨_, (lF (by decide)).2 rfl, rfl⟩ ?_
    rintro r hr -
    obtain rfl := (lF (by decide)).1 hr
    refine ⟨ce, _, _, _, _, _, bT, (by decide), aN, ?_⟩
    by_cases hwo : wS W s.set nd.length = s.worth
    ·by_cases hm : qb s.num s.den
     ·have hwt := kw h s.num s.den hm
      simp only [I, Gs, jh, hlw, hlc, hnl] at hwt
      repeat (first | refine aI ?_ | refine aB ?_ | refine ac ?_ | refine a8 ?_ | refine aK ?_ | refine ak ?_ | refine ag ?_ | refine ab ?_ | refine aw ?_ | refine ax ?_ | refine bw ?_)
      refine aX aE cI (hwt) ?_
      rintro _ (⟨hwk, rfl⟩ | ⟨hwk, rfl⟩)
      ·have hL := kT W C s.num s.den
       rw [hlw] at hL
       have hbo := vw (dg W C s.num s.den) nd _ s.flow h.g hwk hL
       simp only [I, Gs, hnl, hL] at hbo
       have hA : GM W C nd B s := ⟨⟨hl, hC, by omega⟩, hc, hwo, hm, hwk⟩
       refine ⟨ce, _, _, _, _, _, bT, (by decide), aN, ?_⟩
       repeat (first | refine ae ?_ | refine aB ?_ | refine ac ?_ | refine a8 ?_ | refine br ?_ | refine ak ?_ | refine ag ?_ | refine ab ?_ | refine aw ?_ | refine ax ?_)
       refine aX aE cI (hbo) ?_
       rintro _ ⟨x, y, rfl, hBo⟩
       have hx := BoundR.bd h.g hwk hBo
       have bb := kY (a := s.num) (b := B) hm.1.1 hm.1.2 hB.1 hB.2
       refine ⟨ce, _, _, _, _, _, bT, (by decide), aN, ?_⟩
       by_cases hy : y = 0
       ·repeat (first | refine ae ?_ | refine ac ?_ | refine br ?_ | refine ag ?_)
        refine bA aS aS (fun _ _ r => r = .int .i64 ((x + s.num * B) / s.den)) ?_
        repeat (first | refine ae ?_ | refine aI ?_ | refine aB ?_ | refine a8 ?_ | refine bn ?_ | refine jz (by rfl) (by rfl) kK ?_ | refine ax ?_)
        refine bk aE cI (pO (x + s.num * B) s.den (by have := hm.2; omega) (by have := hm.2; omega) (by omega) (by omega)) ⟨_, rfl, rfl⟩ ?_
        rintro _ rfl -
        refine ⟨ce, _, _, _, _, _, bT, (by decide), aN, ?_⟩
        by_cases hbd : (x + s.num * B) / s.den = s.bound
        ·repeat (first | refine ae ?_ | refine aI ?_ | refine aB ?_ | refine ac ?_ | refine a8 ?_ | refine aK ?_ | refine ak ?_ | refine ag ?_ | refine ab ?_ | refine aw ?_ | refine ax ?_)
         refine ar ?_
         exact ⟨0, rfl, .inr ⟨hA, x, y, hBo, .inl ⟨hy, hbd, rfl⟩⟩⟩
        ·repeat (first | refine ae ?_ | refine aI ?_ | refine aB ?_ | refine ac ?_ | refine a8 ?_ | refine aK ?_ | refine am ?_ | refine ag ?_ | refine ab ?_ | refine ax ?_)
         refine ar ?_
         exact ⟨24, rfl, .inr ⟨hA, x, y, hBo, .inr ⟨fun h => hbd h.2, rfl⟩⟩⟩
       ·repeat (first | refine ae ?_ | refine ac ?_ | refine br ?_ | refine ag ?_)
        refine bA aS aS (fun _ _ r => False) ?_
        repeat (first | refine ae ?_ | refine bE ?_ | refine ac ?_ | refine a8 ?_ | refine aJ ?_ | refine am ?_ | refine ag ?_ | refine ab ?_)
        refine ar ?_
        exact ⟨24, rfl, .inr ⟨hA, x, y, hBo, .inr ⟨fun h => hy h.1, rfl⟩⟩⟩
      ·refine ⟨ce, _, _, _, _, _, bT, (by decide), aN, ?_⟩
       repeat (first | refine ae ?_ | refine ac ?_ | refine a8 ?_ | refine br ?_ | refine am ?_ | refine ag ?_ | refine ab ?_)
       refine ar ?_
       exact out fun hA => hwk hA.wok
     ·have hwt := jo h s.num s.den hm
      simp only [I, Gs, jh, hlw, hlc, hnl] at hwt
      repeat (first | refine aI ?_ | refine aB ?_ | refine ac ?_ | refine a8 ?_ | refine aK ?_ | refine ak ?_ | refine ag ?_ | refine ab ?_ | refine aw ?_ | refine ax ?_ | refine bw ?_)
      refine aX aE cI (hwt) ?_
      rintro _ rfl
      refine ⟨ce, _, _, _, _, _, bT, (by decide), aN, ?_⟩
      repeat (first | refine ae ?_ | refine ac ?_ | refine a8 ?_ | refine br ?_ | refine am ?_ | refine ag ?_ | refine ab ?_)
      refine ar ?_
      exact out fun hA => hm hA.mul
    ·repeat (first | refine ae ?_ | refine aI ?_ | refine aB ?_ | refine ac ?_ | refine a8 ?_ | refine aK ?_ | refine am ?_ | refine ag ?_ | refine ab ?_ | refine ax ?_)
     refine ar ?_
     exact out fun hA => hwo hA.worth
   ·repeat (first | refine ae ?_ | refine aI ?_ | refine bE ?_ | refine aB ?_ | refine ac ?_ | refine a8 ?_ | refine aJ ?_ | refine aK ?_ | refine am ?_ | refine ag ?_ | refine ab ?_ | refine bq ?_ | refine ax ?_)
    refine ar ?_
    exact out fun hA => hcB (by rw [<- hc]; exact hA.sel.cost)
  ·repeat (first | refine ae ?_ | refine aI ?_ | refine bE ?_ | refine aB ?_ | refine ac ?_ | refine a8 ?_ | refine aJ ?_ | refine aK ?_ | refine am ?_ | refine ag ?_ | refine ab ?_ | refine ax ?_)
   refine ar ?_
   exact out fun hA => hc hA.cost
end Go.Proofs.Yteamkjblpglliaa
end
