import Derived.Test.YteamkjblpglliaaGrPlain
section
set_option linter.unusedSimpArgs false
set_option linter.unusedVariables false
namespace Go.Proofs.Yteamkjblpglliaa
open Go.RowKit Go.SL Go.HL
def aM (l : List (List Int)) : List HV := l.map fun r => .sl r.length (HL.ints r)
def Gs (l : List (List Int)) : HV := .sl l.length (aM l)
theorem vr (l : List (List Int)) : (aM l).length = l.length := by simp [aM]
theorem vn (l : List (List Int)) {i : Nat} (h : i < l.length) : (aM l).getD i .dead = .sl (l.getD i []).length (HL.ints (l.getD i [])) := by simp [aM, h]
theorem dc (l : List (List Int)) : aW (aM l) = aM l := by
 induction l with
 | nil => rfl
 | cons a l ih => unfold aM at ih ⊢; simp only [List.map_cons, aW, HV.strip, HL.ints_strip, ih]
attribute [go_sem] vn vr
def nl (l : List Nat) : List Int := l.map fun x : Nat => (x : Int)
theorem cH {α : Type} {l : List α} {k : Nat} {d : α} (h : k < l.length) : l.getD k d = l[k] := by simp [h]
theorem cL (l : List Nat) : (nl l).length = l.length := by simp [nl]
theorem xQ (l : List Nat) (i : Nat) : (nl l).getD i 0 = ((l.getD i 0 : Nat) : Int) := by
 unfold nl
 by_cases h : i < l.length
 ·simp [h]
 ·simp [List.getElem?_eq_none (Nat.le_of_not_lt h)]
theorem yy (l : List Nat) (i : Nat) : nl l ++ [(i : Int)] = nl (l ++ [i]) := by simp [nl]
attribute [go_sem] cL xQ yy
theorem cY (nd : List (List Nat)) (i : Nat) : (nd.map nl).getD i [] = nl (nd.getD i []) := by
 by_cases h : i < nd.length
 ·simp [h]
 ·simp [List.getElem?_eq_none (Nat.le_of_not_lt h), nl]
def Ih (needs : List (List Int)) (i k : Nat) : Prop := 0 <= (needs.getD i []).getD k 0 /\ (needs.getD i []).getD k 0 < needs.length /\ (0 < k -> (needs.getD i []).getD (k - 1) 0 < (needs.getD i []).getD k 0)
structure VG (needs : List (List Int)) (bad : List Bool) : Prop where
 size : needs.length <= 256
 bads : bad.length = needs.length
 ok : ∀ i, i < needs.length -> ∀ k, k < (needs.getD i []).length -> Ih needs i k
theorem Gr.vg {nd : List (List Nat)} {bad : List Bool} (g : Gr nd bad) : VG (nd.map nl) bad := by
 refine ⟨by simpa using g.size, by simpa using g.bads, fun i hi k hk => ?_⟩
 simp only [List.length_map] at hi
 rw [cY, cL] at hk
 simp only [Ih, cY, xQ, List.length_map]
 have h1 := g.lt i _ (dl (nd.getD i []) k 0 hk)
 refine ⟨by omega, by omega, fun h0 => ?_⟩
 have := List.pairwise_iff_getElem.1 (g.sorted i) (k - 1) k (by omega) hk (by omega)
 have ea : (nd.getD i []).getD (k - 1) 0 = (nd.getD i [])[k - 1] := cH (by omega)
 have eb : (nd.getD i []).getD k 0 = (nd.getD i [])[k] := cH hk
 rw [ea, eb]; omega
end Go.Proofs.Yteamkjblpglliaa
end
section
set_option linter.unusedSimpArgs false
set_option linter.unusedVariables false
namespace Go.Proofs.Yteamkjblpglliaa
open Go.RowKit Go.SL Go.HL
end Go.Proofs.Yteamkjblpglliaa
end
section
set_option linter.unusedSimpArgs false
set_option linter.unusedVariables false
namespace Go.Proofs.Yteamkjblpglliaa
open Go.RowKit Go.SL Go.HL
theorem dS {α : Type} (l : List α) (p : α -> Bool) (d : α) {i : Nat} (hi : i < l.length) : (l.take (i + 1)).any p = ((l.take i).any p || p (l.getD i d)) := by
 rw [List.take_succ_eq_append_getElem hi, List.any_append]
 simp [List.getD_eq_getElem?_getD, hi]
theorem fA {α : Type} (l : List α) (p : α -> Bool) {i : Nat} (h : (l.take i).any p = true) : l.any p = true := by
 rw [List.any_eq_true] at h ⊢
 obtain ⟨x, hx, h2⟩ := h
 exact ⟨x, List.mem_of_mem_take hx, h2⟩
theorem ie {α : Type} (l : List α) (d : α) {i : Nat} (hi : i < l.length) : l.getD i d ∈ l := by
 rw [List.getD_eq_getElem?_getD, List.getElem?_eq_getElem hi, Option.getD_some]; exact List.getElem_mem hi
set_option maxHeartbeats 4000000 in
theorem BQ (l : List Int) (n : Nat) (set : List Bool) (f : FuncId) (p : Int -> Bool) (hl : l.length <= 9223372036854775807) (hp : ∀ x ∈ l, HT Try.prog f [.int .i64 x, .ptr [.sl n (HL.bools set)] 0] (fun r => r = .bool (p x))) :
  HT Try.prog 70 [I l, .fn f [.ptr [.sl n (HL.bools set)] 0]] (fun r => ∃ e : Int, r = .int .i64 e /\ -1 <= e /\ (0 <= e <-> l.any p = true)) := by
 refine HT.of rfl Eh (Nat.le_of_ble_eq_true rfl) ?_
 unfold Kl
 simp only [I, aF, Nat.reduceAdd]
 repeat (first | refine ae ?_ | refine ac ?_ | refine aD ?_ | refine ag ?_ | refine ab ?_ | refine ay ?_)
 refine bc [0, 1, 7, 8] (fun i : Nat => i <= l.length /\ (l.take i).any p = false) (fun i => ⟨[(0, .sl l.length (HL.ints l)), (1, .fn f [.ptr [.sl n (HL.bools set)] 0]), (7, .int .i64 l.length), (8, .int .i64 i)], [], 0⟩) (fun i => l.length - i) 0 ⟨by omega, rfl⟩ rfl ?_
 rintro i ⟨hi, hno⟩
 by_cases hil : i < l.length
 ·obtain ⟨x, hx⟩ : ∃ x, l.getD i 0 = x := ⟨_, rfl⟩
  have hst := dS l p 0 hil
  rw [hx, hno, Bool.false_or] at hst
  repeat (first | refine ae ?_ | refine aL ?_ | refine bl (by rfl) aP (by (try simp (disch := omega) only [go_sem, hx]); try rfl) ?_ | refine ac ?_ | refine au ?_ | refine am ?_ | refine ag ?_ | refine ab ?_ | refine ay ?_ | refine aw ?_)
  refine o7 (by rfl) aE cI (hp x (hx ▸ ie l 0 hil)) ?_
  rintro _ rfl
  refine ⟨ce, _, _, _, _, _, bT, (by decide), aN, ?_⟩
  cases hpx : p x with
  | true =>
   repeat (first | refine ae ?_ | refine ac ?_ | refine am ?_ | refine ag ?_ | refine ab ?_)
   refine ar ?_
   exact ⟨i, rfl, by omega, by rw [fA l p (hst.trans hpx)]; simp⟩
  | false =>
   repeat (first | refine ae ?_ | refine ac ?_ | refine bn ?_ | refine ak ?_ | refine ab ?_ | refine bV ?_ | refine aw ?_)
   exact bm [0, 1, 7, 8] (i + 1) ⟨hil, hst.trans hpx⟩ (by omega) rfl
 ·obtain rfl : i = l.length := by omega
  rw [List.take_length] at hno
  repeat (first | refine ae ?_ | refine ac ?_ | refine au ?_ | refine aZ (by rfl) ?_ | refine ak ?_ | refine ag ?_ | refine ab ?_)
  refine ar ?_
  exact ⟨-1, rfl, by omega, by rw [hno]; simp⟩
theorem xE (l : List Int) (n : Nat) (set : List Bool) (f : FuncId) (p : Int -> Bool) (hl : l.length <= 9223372036854775807) (hp : ∀ x ∈ l, HT Try.prog f [.int .i64 x, .ptr [.sl n (HL.bools set)] 0] (fun r => r = .bool (p x))) :
  HT Try.prog 52 [I l, .fn f [.ptr [.sl n (HL.bools set)] 0]] (fun r => r = .bool (l.any p)) := by
 refine HT.of rfl Hg (Nat.le_of_ble_eq_true rfl) ?_
 unfold JQ
 simp only [I, aF, Nat.reduceAdd]
 repeat (first | refine ae ?_ | refine ac ?_ | refine ag ?_ | refine ab ?_)
 refine aX aE cI (BQ l n set f p hl hp) ?_
 rintro _ ⟨e, rfl, he, h⟩
 refine ⟨ce, _, _, _, _, _, bT, (by decide), aN, ?_⟩
 by_cases h0 : 0 <= e
 ·repeat (first | refine ae ?_ | refine ac ?_ | refine ef (by rfl) (by rfl) cA ?_)
  refine ar ?_
  rw [h.1 h0]; rfl
 ·have h1 : l.any p = false := by
   cases hb : l.any p with
   | false => rfl
   | true => exact absurd (h.2 hb) h0
  repeat (first | refine ae ?_ | refine ac ?_ | refine ef (by rfl) (by rfl) cA ?_)
  refine ar ?_
  rw [h1]; rfl
set_option maxHeartbeats 4000000 in
theorem yH (g : List (List Int)) (n : Nat) (set : List Bool) (f : FuncId) (p : List Int -> Bool) (hl : g.length <= 9223372036854775807) (hp : ∀ x ∈ g, HT Try.prog f [I x, .ptr [.sl n (HL.bools set)] 0] (fun r => r = .bool (p x))) :
  HT Try.prog 77 [Gs g, .fn f [.ptr [.sl n (HL.bools set)] 0]] (fun r => ∃ e : Int, r = .int .i64 e /\ -1 <= e /\ (0 <= e <-> g.any p = true)) := by
 refine HT.of rfl Kd (Nat.le_of_ble_eq_true rfl) ?_
 unfold Kt
 simp only [Gs, aF, Nat.reduceAdd]
 repeat (first | refine ae ?_ | refine ac ?_ | refine aD ?_ | refine ag ?_ | refine ab ?_ | refine ay ?_)
 refine bc [0, 1, 7, 8] (fun i : Nat => i <= g.length /\ (g.take i).any p = false) (fun i => ⟨[(0, .sl g.length (aM g)), (1, .fn f [.ptr [.sl n (HL.bools set)] 0]), (7, .int .i64 g.length), (8, .int .i64 i)], [], 0⟩) (fun i => g.length - i) 0 ⟨by omega, rfl⟩ rfl ?_
 rintro i ⟨hi, hno⟩
 by_cases hil : i < g.length
 ·obtain ⟨x, hx⟩ : ∃ x, g.getD i [] = x := ⟨_, rfl⟩
  have hst := dS g p [] hil
  rw [hx, hno, Bool.false_or] at hst
  have hpx := hp x (hx ▸ ie g [] hil)
  simp only [I] at hpx
  repeat (first | refine ae ?_ | refine aL ?_ | refine bl (by rfl) aP (by (try simp (disch := omega) only [go_sem, hx]); try rfl) ?_ | refine ac ?_ | refine au ?_ | refine am ?_ | refine ag ?_ | refine ab ?_ | refine ay ?_ | refine aw ?_)
  refine o7 (by rfl) aE cI (hpx) ?_
  rintro _ rfl
  refine ⟨ce, _, _, _, _, _, bT, (by decide), aN, ?_⟩
  cases hpx : p x with
  | true =>
   repeat (first | refine ae ?_ | refine ac ?_ | refine am ?_ | refine ag ?_ | refine ab ?_)
   refine ar ?_
   exact ⟨i, rfl, by omega, by rw [fA g p (hst.trans hpx)]; simp⟩
  | false =>
   repeat (first | refine ae ?_ | refine ac ?_ | refine bn ?_ | refine ak ?_ | refine ab ?_ | refine bV ?_ | refine aw ?_)
   exact bm [0, 1, 7, 8] (i + 1) ⟨hil, hst.trans hpx⟩ (by omega) rfl
 ·obtain rfl : i = g.length := by omega
  rw [List.take_length] at hno
  repeat (first | refine ae ?_ | refine ac ?_ | refine au ?_ | refine aZ (by rfl) ?_ | refine ak ?_ | refine ag ?_ | refine ab ?_)
  refine ar ?_
  exact ⟨-1, rfl, by omega, by rw [hno]; simp⟩
theorem yJ (g : List (List Int)) (n : Nat) (set : List Bool) (f : FuncId) (p : List Int -> Bool) (hl : g.length <= 9223372036854775807) (hp : ∀ x ∈ g, HT Try.prog f [I x, .ptr [.sl n (HL.bools set)] 0] (fun r => r = .bool (p x))) :
  HT Try.prog 67 [Gs g, .fn f [.ptr [.sl n (HL.bools set)] 0]] (fun r => r = .bool (g.any p)) := by
 refine HT.of rfl Jl (Nat.le_of_ble_eq_true rfl) ?_
 unfold KD
 simp only [Gs, aF, Nat.reduceAdd]
 repeat (first | refine ae ?_ | refine ac ?_ | refine ag ?_ | refine ab ?_)
 refine aX aE (by simp (disch := omega) only [bF, Gs, HV.thaw, bu, aG, aH, if_true, if_false, reduceIte, Nat.reduceEqDiff, aW, HV.strip, da, ci, cV, Nat.mul_one, List.cons_append, List.nil_append, List.append_nil, I, Bl, Es, List.getD_cons_zero, List.getD_cons_succ, HL.ints_strip, HL.bools_strip, cS, cO]; try rfl) (yH g n set f p hl hp) ?_
 rintro _ ⟨e, rfl, he, h⟩
 refine ⟨ce, _, _, _, _, _, bT, (by decide), aN, ?_⟩
 by_cases h0 : 0 <= e
 ·repeat (first | refine ae ?_ | refine ac ?_ | refine ef (by rfl) (by rfl) cA ?_)
  refine ar ?_
  rw [h.1 h0]; rfl
 ·have h1 : g.any p = false := by
   cases hb : g.any p with
   | false => rfl
   | true => exact absurd (h.2 hb) h0
  repeat (first | refine ae ?_ | refine ac ?_ | refine ef (by rfl) (by rfl) cA ?_)
  refine ar ?_
  rw [h1]; rfl
def iO (n : Nat) (x : Int) : Bool := decide (x < 0) || decide ((n : Int) <= x)
def fM (g : List (List Int)) (set : List Bool) : Bool := decide (g.length = set.length) && !(g.any fun r => r.any (iO set.length))
theorem uY (x : Int) (n : Nat) (set : List Bool) : HT Try.prog 69 [.int .i64 x, .ptr [.sl n (HL.bools set)] 0] (fun r => r = .bool (iO n x)) := by
 refine HT.of rfl J9 (Nat.le_of_ble_eq_true rfl) ?_
 unfold KO
 simp only [aF, Nat.reduceAdd]
 unfold iO
 by_cases h0 : x < 0
 ·repeat (first | refine ae ?_ | refine bE ?_ | refine ac ?_ | refine au ?_ | refine aJ ?_ | refine ag ?_ | refine ab ?_)
  refine ar ?_
  simp [bJ, h0]
 ·by_cases h1 : (n : Int) <= x
  ·repeat (first | refine ae ?_ | refine aI ?_ | refine bl (by rfl) aP j6 ?_ | refine ac ?_ | refine au ?_ | refine aK ?_ | refine aD ?_ | refine ag ?_ | refine ab ?_ | refine ef (by rfl) (by rfl) cA ?_)
   refine ar ?_
   simp [bJ, h1]
  ·repeat (first | refine ae ?_ | refine aI ?_ | refine bl (by rfl) aP j6 ?_ | refine ac ?_ | refine au ?_ | refine aK ?_ | refine aD ?_ | refine ag ?_ | refine ab ?_ | refine ef (by rfl) (by rfl) cA ?_)
   refine ar ?_
   simp [bJ, h0, h1]
theorem wX (r : List Int) (n : Nat) (set : List Bool) (hl : r.length <= 9223372036854775807) : HT Try.prog 68 [I r, .ptr [.sl n (HL.bools set)] 0] (fun v => v = .bool (r.any (iO n))) := by
 refine HT.of rfl J7 (Nat.le_of_ble_eq_true rfl) ?_
 unfold KV
 simp only [I, aF, Nat.reduceAdd]
 repeat (first | refine ae ?_ | refine ac ?_ | refine ag ?_ | refine ab ?_)
 refine pS aE ?_
 skip
 refine aX aE cI (xE r n set _ (iO n) hl fun x _ => uY x n set) ?_
 rintro _ rfl
 refine ⟨ce, _, _, _, _, _, bT, (by decide), aN, ?_⟩
 repeat (first | refine ae ?_ | refine ac ?_)
 refine ar ?_
 rfl
theorem uB (g : List (List Int)) (set : List Bool) (h1 : g.length <= 9223372036854775807) (h2 : set.length <= 9223372036854775807) (h3 : ∀ i, (g.getD i []).length <= 9223372036854775807) :
  HT Try.prog 48 [Gs g, Bl set] (fun r => r = .bool (fM g set)) := by
 have h3' : ∀ x ∈ g, x.length <= 9223372036854775807 := fun x hx => by
  obtain ⟨k, hk, rfl⟩ := List.getElem_of_mem hx
  have := h3 k
  rwa [List.getD_eq_getElem?_getD, List.getElem?_eq_getElem hk, Option.getD_some] at this
 refine HT.of rfl Jp (Nat.le_of_ble_eq_true rfl) ?_
 unfold KY
 simp only [Gs, Bl, aF, Nat.reduceAdd]
 unfold fM
 have hbs : aW (HL.bools set) = HL.bools set := HL.bools_strip _
 by_cases he : g.length = set.length
 ·repeat (first | refine ae ?_ | refine aI ?_ | refine aB ?_ | refine ac ?_ | refine eh (by rfl) (by rfl) eg ?_ | refine aD ?_ | refine ag ?_ | refine ab ?_ | refine fK cR cy bh jk (by rfl) ?_)
  refine pS aE ?_
  repeat (first | refine aI ?_)
  refine aX aE (by simp (disch := omega) only [bF, Gs, HV.thaw, bu, aG, aH, if_true, if_false, reduceIte, Nat.reduceEqDiff, aW, HV.strip, da, ci, cV, Nat.mul_one, List.cons_append, List.nil_append, List.append_nil, I, Bl, Es, List.getD_cons_zero, List.getD_cons_succ, HL.ints_strip, HL.bools_strip, cS, cO]; try rfl) (yJ g set.length set _ (fun r => r.any (iO set.length)) h1 fun x hx => wX x set.length set (h3' x hx)) ?_
  rintro _ rfl
  refine ⟨ce, _, _, _, _, _, bT, (by decide), aN, ?_⟩
  repeat (first | refine ae ?_ | refine aI ?_ | refine ac ?_ | refine aJ ?_ | refine qS (by rfl) (by (try simp only [go_sem, reduceIte]); try rfl) ?_)
  refine ar ?_
  simp [bJ, he]
 ·repeat (first | refine ae ?_ | refine bE ?_ | refine aB ?_ | refine ac ?_ | refine eh (by rfl) (by rfl) eg ?_ | refine aK ?_ | refine aD ?_ | refine ag ?_ | refine ab ?_ | refine fK cR cy bh jk (by rfl) ?_)
  refine ar ?_
  simp [bJ, he]
end Go.Proofs.Yteamkjblpglliaa
end
