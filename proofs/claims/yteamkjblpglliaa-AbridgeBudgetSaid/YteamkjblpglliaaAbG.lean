import Derived.Test.YteamkjblpglliaaHlDn
import Derived.Test.YteamkjblpglliaaHlFi
set_option linter.unusedSimpArgs false
set_option linter.unusedVariables false
namespace Go.Proofs.Yteamkjblpglliaa
open Go.RowKit Go.SL Go.HL
theorem hO (set : List Bool) (h0 : 0 < set.length) (hl : set.length <= 100000) : HT Try.prog 54 [Bl set] (fun r => r = .osl 1 set.length (HL.bools set)) := by
 refine HT.of rfl J5 (Nat.le_of_ble_eq_true rfl) ?_
 unfold K3
 simp only [Bl, aF, Nat.reduceAdd]
 repeat (first | refine ae ?_ | refine ac ?_ | refine ak ?_ | refine ag ?_ | refine ab ?_ | refine aw ?_ | refine cW rfl (by rfl) cR ?_ | refine cn ?_ | refine ec cR (by rfl) cy qa mE bO bh cR (by omega) eZ aP nL bh ?_ | refine Cd (by rfl) (by omega) ?_)
 refine ar ?_
 rfl
theorem xU (a b : List Bool) (hl : a.length <= 100000) (hb : b.length <= 100000) : HT Try.prog 62 [Bl a, Bl b] (fun r => r = .bool (decide (a = b))) := by
 refine HT.of rfl Jq (Nat.le_of_ble_eq_true rfl) ?_
 unfold KL
 simp only [Bl, aF, Nat.reduceAdd]
 by_cases hab : a.length = b.length
 ·repeat (first | refine ae ?_ | refine ac ?_ | refine a8 ?_ | refine aD ?_ | refine ak ?_ | refine ag ?_ | refine ab ?_ | refine ay ?_ | refine aw ?_)
  refine bc [0, 1, 11, 12, 13] (fun i : Nat => i <= a.length /\ a.take i = b.take i)
   (fun i => ⟨[(0, .sl a.length (HL.bools a)), (1, .sl b.length (HL.bools b)), (11, .sl a.length (HL.bools a)), (12, .int .i64 a.length), (13, .int .i64 i)], [], 0⟩) (fun i => a.length - i) 0 ⟨by omega, by simp⟩ rfl ?_
  rintro i ⟨hi, hE⟩
  by_cases hil : i < a.length
  ·have ta := bf a i false hil
   have tb := bf b i false (by omega)
   obtain ⟨x, hx⟩ : ∃ x, a.getD i false = x := ⟨_, rfl⟩
   obtain ⟨y, hy⟩ : ∃ x, b.getD i false = x := ⟨_, rfl⟩
   by_cases hxy : x = y
   ·subst hxy
    repeat (first | refine ae ?_ | refine ac ?_ | refine au ?_ | refine am ?_ | refine ag ?_ | refine ab ?_ | refine ay ?_ | refine aw ?_)
    refine bA aS aS (fun _ _ _ => False) ?_
    repeat (first | refine ae ?_ | refine aL ?_ | refine bl (by rfl) aP (by (try simp (disch := omega) only [go_sem, hx, hy]); try rfl) ?_ | refine ac ?_ | refine bH (by rfl) (by rfl) (by (try simp (disch := omega) only [go_sem, Int.reduceAdd, Int.reduceSub, Int.reduceMul, hx, hy]); try rfl) ?_ | refine ak ?_ | refine ab ?_ | refine bV ?_ | refine aw ?_ | refine oK (by rfl) (by rfl) (by (try simp only [go_sem, reduceIte, hx, hy]); try rfl) ?_)
    exact bm [0, 1, 11, 12, 13] (i + 1) ⟨hil, by rw [ta, tb, hE, hx, hy]⟩ (by omega) rfl
   ·have hne : (x == y) = false := by simpa using hxy
    repeat (first | refine ae ?_ | refine ac ?_ | refine au ?_ | refine am ?_ | refine ag ?_ | refine ab ?_ | refine ay ?_ | refine aw ?_)
    refine bA aS aS (fun _ _ _ => False) ?_
    repeat (first | refine ae ?_ | refine aL ?_ | refine bl (by rfl) aP (by (try simp (disch := omega) only [go_sem, hx, hy, hne]); try rfl) ?_ | refine ac ?_ | refine am ?_ | refine ag ?_ | refine ab ?_ | refine oK (by rfl) (by rfl) (by (try simp only [go_sem, reduceIte, hx, hy, hne]); try rfl) ?_)
    refine ar ?_
    have : a ≠ b := fun e => hxy (by rw [<- hx, <- hy, e])
    simp [bJ, this]
  ·obtain rfl : i = a.length := by omega
   rw [List.take_length, hab, List.take_length] at hE
   repeat (first | refine ae ?_ | refine ac ?_ | refine au ?_ | refine aZ (by rfl) ?_ | refine ak ?_ | refine ag ?_ | refine ab ?_)
   refine ar ?_
   simp [bJ, hE]
 ·have : a ≠ b := fun e => hab (by rw [e])
  repeat (first | refine ae ?_ | refine ac ?_ | refine a8 ?_ | refine aD ?_ | refine am ?_ | refine ag ?_ | refine ab ?_)
  refine ar ?_
  simp [bJ, this]
theorem n0 (l : List Bool) (i : Nat) (h : i < l.length) : l.drop i = l.getD i false :: l.drop (i + 1) := by
 rw [List.drop_eq_getElem_cons h, List.getD_eq_getElem?_getD, List.getElem?_eq_getElem h]; rfl
def je : List Bool -> List Bool -> Bool
 | x :: xs, y :: ys => if x = y then je xs ys else !x
 | _, _ => false
theorem rW : ∀ X : List Bool, je X X = false
 | [] => rfl
 | x :: xs => by simp only [je, if_true, rW xs]
theorem mL : ∀ {X Y Z : List Bool}, X.length = Y.length -> Y.length = Z.length -> je X Y = true -> je Y Z = true -> je X Z = true
 | [], _, _, _, _, h, _ => by simp [je] at h
 | _ :: _, [], _, h, _, _, _ => by simp at h
 | _ :: _, _ :: _, [], _, h, _, _ => by simp at h
 | x :: xs, y :: ys, z :: zs, h1, h2, h3, h4 => by
  simp only [je] at h3 h4 ⊢
  by_cases e1 : x = y
  ·rw [if_pos e1] at h3
   subst e1
   by_cases e2 : x = z
   ·rw [if_pos e2] at h4 ⊢
    exact mL (by simpa using h1) (by simpa using h2) h3 h4
   ·rw [if_neg e2] at h4 ⊢; exact h4
  ·rw [if_neg e1] at h3
   by_cases e2 : y = z
   ·subst e2; rw [if_neg e1]; exact h3
   ·rw [if_neg e2] at h4
    exfalso
    cases x <;> cases y <;> simp_all
def i7 (W C : List Int) (n : Nat) (X Y : List Bool) : Bool :=
 if wS W X n = wS W Y n then (if wS C X n = wS C Y n then je X Y else decide (wS C X n < wS C Y n)) else decide (wS W Y n < wS W X n)
theorem p6 (W C : List Int) (n : Nat) (X : List Bool) : i7 W C n X X = false := by simp [i7, rW]
theorem oL {W C : List Int} {n : Nat} {X Y Z : List Bool} (h1 : X.length = Y.length) (h2 : Y.length = Z.length) (a : i7 W C n X Y = true) (b : i7 W C n Y Z = true) : i7 W C n X Z = true := by
 unfold i7 at *
 by_cases e1 : wS W X n = wS W Y n
 ·rw [if_pos e1] at a
  by_cases e2 : wS W Y n = wS W Z n
  ·rw [if_pos e2] at b
   rw [if_pos (e1.trans e2)]
   by_cases f1 : wS C X n = wS C Y n
   ·rw [if_pos f1] at a
    by_cases f2 : wS C Y n = wS C Z n
    ·rw [if_pos f2] at b
     rw [if_pos (f1.trans f2)]
     exact mL h1 h2 a b
    ·rw [if_neg f2] at b
     rw [if_neg (by omega), f1]; exact b
   ·rw [if_neg f1] at a
    by_cases f2 : wS C Y n = wS C Z n
    ·rw [if_neg (by omega), <- f2]; exact a
    ·rw [if_neg f2] at b
     simp only [decide_eq_true_eq] at a b
     rw [if_neg (by omega)]; simp only [decide_eq_true_eq]; omega
  ·rw [if_neg e2] at b
   rw [if_neg (by omega), e1]; exact b
 ·rw [if_neg e1] at a
  by_cases e2 : wS W Y n = wS W Z n
  ·rw [if_neg (by omega), <- e2]; exact a
  ·rw [if_neg e2] at b
   simp only [decide_eq_true_eq] at a b
   rw [if_neg (by omega)]; simp only [decide_eq_true_eq]; omega
structure Se where
 steps : Int
 best : List Bool
 num : Int
 den : Int
 value : Int
 set : List Bool
 flow : List Int
def iW (W C : List Int) (nd us : List (List Nat)) (B : Int) (s : Se) : List HV := [I W, I C, Gs (nd.map nl), .int .i64 B, .int .i64 s.steps, Bl s.best, .int .i64 s.num, .int .i64 s.den, .int .i64 s.value, Bl s.set, I s.flow, Gs (us.map nl)]
theorem Pb.wok {W C : List Int} {nd : List (List Nat)} {B : Int} (h : Pb W C nd B) : WOK W := fun i => by have := h.w i; omega
theorem Pb.cok {W C : List Int} {nd : List (List Nat)} {B : Int} (h : Pb W C nd B) : WOK C := fun i => by have := h.c i; omega
def va (n : Nat) : FuncId -> List HV -> HV -> Prop := fun _ xs r => ∃ L X, xs = [.sl n (HL.ints L), .sl n (HL.bools X)] /\ r = .int .i64 (wS L X n)
theorem rg : ∀ {a b : List Int}, HL.ints a = HL.ints b -> a = b
 | [], [], _ => rfl
 | [], _ :: _, h => by simp [HL.ints] at h
 | _ :: _, [], h => by simp [HL.ints] at h
 | x :: a, y :: b, h => by
  simp only [HL.ints, List.map_cons, List.cons.injEq, HV.int.injEq, true_and] at h
  rw [h.1, rg h.2]
theorem ox : ∀ {a b : List Bool}, HL.bools a = HL.bools b -> a = b
 | [], [], _ => rfl
 | [], _ :: _, h => by simp [HL.bools] at h
 | _ :: _, [], h => by simp [HL.bools] at h
 | x :: a, y :: b, h => by
  simp only [HL.bools, List.map_cons, List.cons.injEq, HV.bool.injEq] at h
  rw [h.1, ox h.2]
theorem cB {n : Nat} {f : FuncId} {L : List Int} {X : List Bool} {r : HV} (h : va n f [.sl n (HL.ints L), .sl n (HL.bools X)] r) : r = .int .i64 (wS L X n) := by
 obtain ⟨L', X', e, rfl⟩ := h
 simp only [List.cons.injEq, HV.sl.injEq, true_and, and_true] at e
 rw [rg e.1, ox e.2]
set_option maxHeartbeats 8000000 in
theorem vF {W C : List Int} {nd : List (List Nat)} {B : Int} (h : Pb W C nd B) (us : List (List Nat)) (s : Se) (set : List Bool) (hb : s.best.length = nd.length) (hs : set.length = nd.length) : HT Try.prog 75 [.ptr (iW W C nd us B s) 0, Bl set] (fun r => r = .bool (i7 W C nd.length set s.best)) := by
 have hsz := h.g.size
 have hlw := h.lw
 have hlc := h.lc
 have hnl : (nd.map nl).length = nd.length := by simp
 have o1 := bS W set h.wok (by omega) (by omega)
 have o2 := bS W s.best h.wok (by omega) (by omega)
 have o3 := bS C set h.cok (by omega) (by omega)
 have o4 := bS C s.best h.cok (by omega) (by omega)
 simp only [I, Bl, hlw, hlc, hb, hs] at o1 o2 o3 o4
 refine HT.of rfl Kj (Nat.le_of_ble_eq_true rfl) ?_
 unfold Ko
 simp only [iW, I, Bl, Gs, aF, Nat.reduceAdd, hlw, hlc, hb, hs, hnl]
 repeat (first | refine ae ?_ | refine ac ?_ | refine ag ?_ | refine ab ?_)
 refine bA aS aS (va nd.length) ?_
 repeat (first | refine ae ?_ | refine bl (by rfl) aP j6 ?_ | refine kf (by rfl) (by rfl) ?_ | refine ba cy rfl ?_)
 refine bk aE cI (o1.mono fun r h => ⟨W, set, rfl, h⟩) ⟨_, ⟨W, set, rfl, rfl⟩, rfl⟩ ?_
 rintro r hr -
 obtain rfl := cB hr
 refine ⟨ce, _, _, _, _, _, bT, (by decide), aN, ?_⟩
 repeat (first | refine ae ?_ | refine bl (by rfl) aP j6 ?_ | refine kf (by rfl) (by rfl) ?_ | refine ba cy rfl ?_)
 refine bk aE cI (o2.mono fun r h => ⟨W, s.best, rfl, h⟩) ⟨_, ⟨W, s.best, rfl, rfl⟩, rfl⟩ ?_
 rintro r hr -
 obtain rfl := cB hr
 refine ⟨ce, _, _, _, _, _, bT, (by decide), aN, ?_⟩
 by_cases e1 : wS W set nd.length = wS W s.best nd.length
 ·have key : i7 W C nd.length set s.best = if wS C set nd.length = wS C s.best nd.length then je set s.best else decide (wS C set nd.length < wS C s.best nd.length) := by rw [i7, if_pos e1]
  rw [key]
  repeat (first | refine ae ?_ | refine ac ?_ | refine a8 ?_ | refine ak ?_ | refine ag ?_ | refine ab ?_ | refine aw ?_)
  refine bA aS aS (va nd.length) ?_
  repeat (first | refine ae ?_ | refine bl (by rfl) aP j6 ?_ | refine kf (by rfl) (by rfl) ?_ | refine ba cy rfl ?_)
  refine bk aE cI (o3.mono fun r h => ⟨C, set, rfl, h⟩) ⟨_, ⟨C, set, rfl, rfl⟩, rfl⟩ ?_
  rintro r hr -
  obtain rfl := cB hr
  refine ⟨ce, _, _, _, _, _, bT, (by decide), aN, ?_⟩
  repeat (first | refine ae ?_ | refine bl (by rfl) aP j6 ?_ | refine kf (by rfl) (by rfl) ?_ | refine ba cy rfl ?_)
  refine bk aE cI (o4.mono fun r h => ⟨C, s.best, rfl, h⟩) ⟨_, ⟨C, s.best, rfl, rfl⟩, rfl⟩ ?_
  rintro r hr -
  obtain rfl := cB hr
  refine ⟨ce, _, _, _, _, _, bT, (by decide), aN, ?_⟩
  by_cases e2 : wS C set nd.length = wS C s.best nd.length
  ·rw [if_pos e2]
   repeat (first | refine ae ?_ | refine ac ?_ | refine a8 ?_ | refine aD ?_ | refine ak ?_ | refine ag ?_ | refine ab ?_ | refine ay ?_ | refine aw ?_)
   refine bc [0, 57, 58, 59] (fun i : Nat => i <= nd.length /\ je set s.best = je (set.drop i) (s.best.drop i))
    (fun i => ⟨[(0, .ptr [.sl nd.length (HL.ints W), .sl nd.length (HL.ints C), .sl nd.length (aM (nd.map nl)), .int .i64 B, .int .i64 s.steps, .sl nd.length (HL.bools s.best), .int .i64 s.num, .int .i64 s.den, .int .i64 s.value, .sl s.set.length (HL.bools s.set), .sl s.flow.length (HL.ints s.flow), .sl (us.map nl).length (aM (us.map nl))] 0), (57, .sl nd.length (HL.bools set)), (58, .int .i64 nd.length), (59, .int .i64 i)], [], 0⟩) (fun i => nd.length - i) 0 ⟨by omega, rfl⟩ rfl ?_
   rintro i ⟨hi, hE⟩
   by_cases hil : i < nd.length
   ·have dx := n0 set i (by omega)
    have dy := n0 s.best i (by omega)
    obtain ⟨x, hx⟩ : ∃ x, set.getD i false = x := ⟨_, rfl⟩
    obtain ⟨y, hy⟩ : ∃ x, s.best.getD i false = x := ⟨_, rfl⟩
    rw [hx] at dx
    rw [hy] at dy
    rw [dx, dy, je] at hE
    by_cases hxy : x = y
    ·subst hxy
     rw [if_pos rfl] at hE
     repeat (first | refine ae ?_ | refine aL ?_ | refine bl (by rfl) aP (by (try simp (disch := omega) only [go_sem, hx, hy]); try rfl) ?_ | refine ac ?_ | refine au ?_ | refine bH (by rfl) (by rfl) (by (try simp (disch := omega) only [go_sem, Int.reduceAdd, Int.reduceSub, Int.reduceMul, hx, hy]); try rfl) ?_ | refine am ?_ | refine ak ?_ | refine ag ?_ | refine ab ?_ | refine ay ?_ | refine bV ?_ | refine aw ?_ | refine oK (by rfl) (by rfl) (by (try simp only [go_sem, reduceIte, hx, hy]); try rfl) ?_ | refine kf (by rfl) (by rfl) ?_ | refine ba cy rfl ?_)
     exact bm [0, 57, 58, 59] (i + 1) ⟨hil, hE⟩ (by omega) rfl
    ·have hne : (x == y) = false := by simpa using hxy
     rw [if_neg hxy] at hE
     rw [hE]
     repeat (first | refine ae ?_ | refine aL ?_ | refine bl (by rfl) aP (by (try simp (disch := omega) only [go_sem, hx, hy, hne]); try rfl) ?_ | refine ac ?_ | refine au ?_ | refine am ?_ | refine ag ?_ | refine ab ?_ | refine ay ?_ | refine aw ?_ | refine oK (by rfl) (by rfl) (by (try simp only [go_sem, reduceIte, hx, hy, hne]); try rfl) ?_ | refine qS (by rfl) (by (try simp only [go_sem, reduceIte, hx, hy, hne]); try rfl) ?_ | refine kf (by rfl) (by rfl) ?_ | refine ba cy rfl ?_)
     refine ar ?_
     rfl
   ·obtain rfl : i = nd.length := by omega
    rw [List.drop_of_length_le (by omega), List.drop_of_length_le (by omega)] at hE
    rw [hE]
    repeat (first | refine ae ?_ | refine ac ?_ | refine au ?_ | refine aZ (by rfl) ?_ | refine ak ?_ | refine ag ?_ | refine ab ?_)
    refine ar ?_
    rfl
  ·rw [if_neg e2]
   repeat (first | refine ae ?_ | refine ac ?_ | refine au ?_ | refine a8 ?_ | refine am ?_ | refine ag ?_ | refine ab ?_)
   refine ar ?_
   rfl
 ·have key : i7 W C nd.length set s.best = decide (wS W s.best nd.length < wS W set nd.length) := by rw [i7, if_neg e1]
  rw [key]
  repeat (first | refine ae ?_ | refine ac ?_ | refine a8 ?_ | refine am ?_ | refine ag ?_ | refine ab ?_ | refine bq ?_)
  refine ar ?_
  rfl
end Go.Proofs.Yteamkjblpglliaa
