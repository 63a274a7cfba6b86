import Derived.Test.YteamkjblpglliaaFlRun
import Derived.Test.YteamkjblpglliaaSlAny
set_option linter.unusedSimpArgs false
set_option linter.unusedVariables false
namespace Go.Proofs.Yteamkjblpglliaa
open Go.RowKit
def gX (es : List Edge) (fl : List Int) (u : Nat) : Nat -> Int
 | 0 => 0
 | k + 1 => gX es fl u k + (if (es.getD k default).f.toNat = u then fl.getD k 0 else 0) - (if (es.getD k default).t.toNat = u then fl.getD k 0 else 0)
structure lC (n s t : Int) (es : List Edge) (fl : List Int) : Prop where
 len : fl.length = es.length
 ok : mg es fl es.length
 bal : ∀ u : Nat, (u : Int) < n -> (u : Int) ≠ s -> (u : Int) ≠ t -> gX es fl u es.length = 0
def dj (es : List Edge) (left : List Int) : List Int := (List.range es.length).map fun i => left.getD (2 * i + 1) 0
theorem iL (es : List Edge) (left : List Int) (i : Nat) (hi : i < es.length) : (dj es left).getD i 0 = left.getD (2 * i + 1) 0 := by
 rw [bg _ _ (by simpa [dj] using hi)]; simp [dj]
theorem ir {n s t : Int} {es : List Edge} (hv : VNet n s t es) {s' t' : Nat} {left : List Int} {value : Int} (H : RunOK s' t' es left value) (i : Nat) (hi : i < es.length) : left.getD (2 * i) 0 + left.getD (2 * i + 1) 0 = es[i].c := by
 have h := H.pair (2 * i) (by omega)
 have e2 : twin (2 * i) = 2 * i + 1 := by unfold twin; rw [if_pos (by omega)]
 obtain ⟨g1, g2⟩ := iQ hv i hi
 rw [e2, g1, g2] at h
 omega
theorem oH {n s t : Int} {es : List Edge} (_hv : VNet n s t es) (left : List Int) (u : Nat) : ∀ j, j <= es.length -> gX es (dj es left) u j = iU (jU es) left u j := by
 intro j
 induction j with
 | zero => intro _; rfl
 | succ j ih =>
  intro hj
  have hj' : j < es.length := by omega
  obtain ⟨g1, g2⟩ := gY (fun e => e.t.toNat) (fun e => e.f.toNat) 0 es j hj'
  simp only [gX, iU, give]
  rw [ih (by omega), iL es left j hj', bg es default hj']
  rw [show (jU es).getD (2 * j + 1) 0 = es[j].f.toNat from g2, show (jU es).getD (2 * j) 0 = es[j].t.toNat from g1]
  omega
theorem RunOK.flow {n s t : Int} {es : List Edge} (hv : VNet n s t es) {left : List Int} {value : Int} (H : RunOK s.toNat t.toNat es left value) : lC n s t es (dj es left) /\ gX es (dj es left) s.toNat es.length = value := by
 have hb := hv.bounds
 refine ⟨⟨by simp [dj], ?_, ?_⟩, ?_⟩
 ·intro j hj
  rw [iL es left j hj, bg es default hj]
  have h1 := ir hv H j hj
  have h2 := H.nn (2 * j)
  have h3 := H.nn (2 * j + 1)
  omega
 ·intro u hu h1 h2
  rw [oH hv left u _ (Nat.le_refl _), H.net, if_neg (by omega), if_neg (by omega)]; rfl
 ·rw [oH hv left _ _ (Nat.le_refl _), H.net, if_pos rfl, if_neg (by omega)]; omega
abbrev ins (set : List Bool) (v : Nat) : Bool := set.getD v false
def hZ (set : List Bool) (es : List Edge) : Nat -> Int
 | 0 => 0
 | k + 1 => hZ set es k + if gU set (es.getD k default) then (es.getD k default).c else 0
theorem r9 {n : Int} {set : List Bool} {e : Edge} (hl : (set.length : Int) = n) (he : l9 n e) : gU set e = (ins set e.f.toNat && !ins set e.t.toNat) := by
 obtain ⟨h1, h2, h3, h4, _, _, _⟩ := he
 have a : e.f.toNat < set.length := by omega
 have b : e.t.toNat < set.length := by omega
 simp [gU, ins, h1, h3, a, b]
theorem zD {n s t : Int} {es : List Edge} (hv : VNet n s t es) (set : List Bool) : ∀ k, k <= es.length -> 0 <= hZ set es k /\ hZ set es k <= (k : Int) * 1099511627776 := by
 intro k
 induction k with
 | zero => intro _; simp [hZ]
 | succ k ih =>
  intro hk
  have := ih (by omega)
  obtain ⟨_, _, _, _, _, a6, a7⟩ := hv.all _ (List.getElem_mem (by omega : k < es.length))
  simp only [hZ, bg es default (by omega : k < es.length)]
  push_cast
  split <;> omega
theorem Db {n s t : Int} {es : List Edge} (hv : VNet n s t es) (set : List Bool) : wz set es = hZ set es es.length := by
 have key : ∀ k, k <= es.length -> wz set (es.take k) = hZ set es k := by
  intro k
  induction k with
  | zero => intro _; rfl
  | succ k ih =>
   intro hk
   have h8 := hv.len
   have h1 := zD hv set k (by omega)
   obtain ⟨_, _, _, _, _, a6, a7⟩ := hv.all _ (List.getElem_mem (by omega : k < es.length))
   rw [vb set es k (by omega), ih (by omega)]
   simp only [hZ, o9, bg es default (by omega : k < es.length)]
   split
   ·rw [IntWalk.wrap64_in _ ⟨by omega, by omega⟩]
   ·omega
 have := key es.length (Nat.le_refl _)
 rwa [List.take_length] at this
def nD (set : List Bool) (g : Nat -> Int) : Nat -> Int
 | 0 => 0
 | m + 1 => nD set g m + if ins set m then g m else 0
theorem jm {a m : Nat} (e : ¬ a = m) {p : Prop} [Decidable p] {x : Int} : (if a < m + 1 /\ p then x else 0) = (if a < m /\ p then x else 0) := by
 by_cases h : a < m
 ·have h' : a < m + 1 := by omega
  by_cases hp : p <;> simp [h, h', hp]
 ·have h' : ¬ a < m + 1 := by omega
  simp [h, h']
theorem sX (set : List Bool) (g h : Nat -> Int) (a b : Nat) (x : Int) (hh : ∀ u, h u = g u + (if a = u then x else 0) - (if b = u then x else 0)) : ∀ m, nD set h m = nD set g m + (if a < m /\ ins set a = true then x else 0) - (if b < m /\ ins set b = true then x else 0) := by
 intro m
 induction m with
 | zero => simp [nD]
 | succ m ih =>
  simp only [nD, ih, hh]
  have ha : (if a < m + 1 /\ ins set a = true then x else 0) = (if a < m /\ ins set a = true then x else 0) + (if ins set m then (if a = m then x else 0) else 0) := by
   by_cases e : a = m
   ·subst e; simp
   ·rw [jm e]; simp [e]
  have hb : (if b < m + 1 /\ ins set b = true then x else 0) = (if b < m /\ ins set b = true then x else 0) + (if ins set m then (if b = m then x else 0) else 0) := by
   by_cases e : b = m
   ·subst e; simp
   ·rw [jm e]; simp [e]
  rw [ha, hb]
  cases ins set m with
  | true => simp only [if_true]; omega
  | false => simp only [Bool.false_eq_true, if_false]; omega
theorem xJ (set : List Bool) (g : Nat -> Int) (s : Nat) : ∀ m, (∀ u, u < m -> u ≠ s -> ins set u = true -> g u = 0) -> nD set g m = if s < m /\ ins set s = true then g s else 0 := by
 intro m
 induction m with
 | zero => intro _; simp [nD]
 | succ m ih =>
  intro h
  simp only [nD]
  rw [ih (fun u hu => h u (by omega))]
  by_cases e : s = m
  ·subst e; simp
  ·rw [jm e]
   by_cases hi : ins set m = true
   ·rw [if_pos hi, h m (by omega) (fun e' => e e'.symm) hi]; omega
   ·rw [if_neg hi]; omega
def z5 (set : List Bool) (e : Edge) (x : Int) : Int :=
 if ins set e.f.toNat = true /\ ins set e.t.toNat = false then e.c - x else if ins set e.f.toNat = false /\ ins set e.t.toNat = true then x else 0
def kL (set : List Bool) (es : List Edge) (fl : List Int) : Nat -> Int
 | 0 => 0
 | k + 1 => kL set es fl k + z5 set (es.getD k default) (fl.getD k 0)
theorem zc {n s t : Int} {es : List Edge} (hv : VNet n s t es) (set : List Bool) (hl : (set.length : Int) = n) (fl : List Int) : ∀ k, k <= es.length -> hZ set es k - nD set (fun u => gX es fl u k) n.toNat = kL set es fl k := by
 intro k
 induction k with
 | zero =>
  intro _
  have : ∀ m, nD set (fun _ => 0) m = 0 := by
   intro m
   induction m with
   | zero => rfl
   | succ m ih => simp [nD, ih]
  have h0 := this n.toNat
  simp only [hZ, kL, gX]
  omega
 | succ k ih =>
  intro hk
  have ih := ih (by omega)
  have hk' : k < es.length := by omega
  have he := hv.all _ (List.getElem_mem hk')
  have hed := bg es default hk'
  have h3 := sX set (fun u => gX es fl u k) (fun u => gX es fl u (k + 1)) es[k].f.toNat es[k].t.toNat (fl.getD k 0) (fun u => by simp only [gX, hed]) n.toNat
  obtain ⟨a1, a2, a3, a4, _, _, _⟩ := he
  have f1 : es[k].f.toNat < n.toNat := by omega
  have f2 : es[k].t.toNat < n.toNat := by omega
  simp only [f1, f2, true_and] at h3
  rw [h3]
  simp only [hZ, kL, hed, z5, r9 hl (hv.all _ (List.getElem_mem hk'))]
  rw [<- ih]
  cases ins set es[k].f.toNat <;> cases ins set es[k].t.toNat <;> simp <;> omega
theorem xF {es : List Edge} {fl : List Int} (set : List Bool) (hok : mg es fl es.length) (k : Nat) (hk : k < es.length) : 0 <= z5 set (es.getD k default) (fl.getD k 0) := by
 have := hok k hk
 unfold z5
 split
 ·omega
 ·split <;> omega
theorem uq {es : List Edge} {fl : List Int} (set : List Bool) (hok : mg es fl es.length) : ∀ k, k <= es.length -> 0 <= kL set es fl k := by
 intro k
 induction k with
 | zero => intro _; simp [kL]
 | succ k ih => intro hk; have := ih (by omega); have := xF set hok k (by omega); simp only [kL]; omega
theorem wb {es : List Edge} {fl : List Int} (set : List Bool) (hok : mg es fl es.length) : ∀ k, k <= es.length -> kL set es fl k = 0 -> ∀ j, j < k -> z5 set (es.getD j default) (fl.getD j 0) = 0 := by
 intro k
 induction k with
 | zero => intro _ _ j hj; omega
 | succ k ih =>
  intro hk h0 j hj
  have h1 := uq set hok k (by omega)
  have h2 := xF set hok k (by omega)
  simp only [kL] at h0
  by_cases e : j = k
  ·subst e; omega
  ·exact ih (by omega) (by omega) j (by omega)
theorem pq {es : List Edge} {fl : List Int} (set : List Bool) : ∀ k, (∀ j, j < k -> z5 set (es.getD j default) (fl.getD j 0) = 0) -> kL set es fl k = 0 := by
 intro k
 induction k with
 | zero => intro _; rfl
 | succ k ih => intro h; simp only [kL, ih (fun j hj => h j (by omega)), h k (by omega)]; rfl
structure lZ (n s t : Int) (set : List Bool) : Prop where
 len : (set.length : Int) = n
 src : ins set s.toNat = true
 snk : ins set t.toNat = false
theorem m5 {n s t : Int} {es : List Edge} (hv : VNet n s t es) {fl : List Int} (hf : lC n s t es fl) {set : List Bool} (hc : lZ n s t set) : hZ set es es.length - gX es fl s.toNat es.length = kL set es fl es.length := by
 have hb := hv.bounds
 rw [<- zc hv set hc.len fl _ (Nat.le_refl _)]
 have := xJ set (fun u => gX es fl u es.length) s.toNat n.toNat (fun u hu hus hiu => by
  refine hf.bal u (by omega) (by omega) (fun e => ?_)
  have : u = t.toNat := by omega
  subst this
  rw [hc.snk] at hiu; cases hiu)
 rw [this, if_pos ⟨by omega, hc.src⟩]
theorem pW {n s t : Int} {es : List Edge} (hv : VNet n s t es) {fl : List Int} (hf : lC n s t es fl) {set : List Bool} (hc : lZ n s t set) : gX es fl s.toNat es.length <= hZ set es es.length := by
 have h1 := m5 hv hf hc
 have h2 := uq set hf.ok _ (Nat.le_refl es.length)
 omega
def fy (level : List Int) : List Bool := level.map fun x => decide (0 <= x)
theorem ig (level : List Int) (v : Nat) : ins (fy level) v = decide (0 <= lv level v) := by
 rcases Nat.lt_or_ge v level.length with h | h
 ·rw [ins, bg _ _ (by simpa [fy] using h), nY h]; simp [fy]
 ·rw [ins, gS _ _ (by simpa [fy] using h)]
  unfold lv; rw [gS _ _ h]; rfl
structure Found (n s t : Int) (es : List Edge) (fl : List Int) (set : List Bool) (value : Int) : Prop where
 flow : lC n s t es fl
 val : gX es fl s.toNat es.length = value
 cut : lZ n s t set
 cap : hZ set es es.length = value
 least : ∀ D, lZ n s t D -> hZ D es es.length = value -> ∀ v, ins set v = true -> ins D v = true
theorem RunOK.found {n s t : Int} {es : List Edge} (hv : VNet n s t es) {left : List Int} {value : Int} (H : RunOK s.toNat t.toNat es left value) {level : List Int} (L : jX n.toNat s.toNat (b9 n.toNat es es.length) (jU es) left level) (ht : lv level t.toNat < 0) :
  Found n s t es (dj es left) (fy level) value := by
 have hb := hv.bounds
 obtain ⟨hf, hval⟩ := H.flow hv
 have hN := zW hv
 have hs0 := (L.zero s.toNat).2 rfl
 have hcut : lZ n s t (fy level) := ⟨by simp [fy, L.len]; omega, by rw [ig]; simp; omega, by rw [ig]; simp; omega⟩
 have ends : ∀ i (hi : i < es.length), (2 * i ∈ (b9 n.toNat es es.length).getD es[i].f.toNat []) /\ (jU es).getD (2 * i) 0 = es[i].t.toNat /\ (2 * i + 1 ∈ (b9 n.toNat es es.length).getD es[i].t.toNat []) /\ (jU es).getD (2 * i + 1) 0 = es[i].f.toNat := by
  intro i hi
  obtain ⟨g1, g2⟩ := gY (fun e => e.t.toNat) (fun e => e.f.toNat) 0 es i hi
  have t0 : twin (2 * i) = 2 * i + 1 := by unfold twin; rw [if_pos (by omega)]
  have t1 : twin (2 * i + 1) = 2 * i := by unfold twin; rw [if_neg (by omega)]; omega
  exact ⟨(hN.out _ _).2 ⟨by omega, by rw [t0]; exact g2⟩, g1, (hN.out _ _).2 ⟨by omega, by rw [t1]; exact g1⟩, g2⟩
 have hgap : kL (fy level) es (dj es left) es.length = 0 := by
  refine pq _ _ fun i hi => ?_
  obtain ⟨o1, o2, o3, o4⟩ := ends i hi
  have hcap := ir hv H i hi
  rw [bg es default hi, iL es left i hi]
  unfold z5
  rw [ig, ig]
  have n1 := H.nn (2 * i)
  have n2 := H.nn (2 * i + 1)
  split
  ·rename_i h
   simp only [decide_eq_true_eq, decide_eq_false_iff_not] at h
   by_cases hz : 0 < left.getD (2 * i) 0
   ·have := L.clo _ h.1 _ o1 hz; rw [o2] at this; exact absurd this h.2
   ·omega
  ·split
   ·rename_i h
    simp only [decide_eq_true_eq, decide_eq_false_iff_not] at h
    by_cases hz : 0 < left.getD (2 * i + 1) 0
    ·have := L.clo _ h.2 _ o3 hz; rw [o4] at this; exact absurd this h.1
    ·omega
   ·rfl
 refine ⟨hf, hval, hcut, by have := m5 hv hf hcut; omega, ?_⟩
 intro D hD hcapD
 have hg0 : kL D es (dj es left) es.length = 0 := by have := m5 hv hf hD; omega
 have hz := wb D hf.ok _ (Nat.le_refl _) hg0
 have key : ∀ (j : Nat) (v : Nat), lv level v = (j : Int) -> ins D v = true := by
  intro j
  induction j with
  | zero => intro v hv0; have := (L.zero v).1 (by simpa using hv0); subst this; exact hD.src
  | succ j ih =>
   intro v hv0
   obtain ⟨u, k, h1, h2, h3, h4⟩ := L.pred v (by omega)
   have hu := ih u (by push_cast at hv0; omega)
   obtain ⟨hk1, hk2⟩ := (hN.out u k).1 h1
   have hi : k / 2 < es.length := by omega
   obtain ⟨o1, o2, o3, o4⟩ := ends (k / 2) hi
   have hcap := ir hv H (k / 2) hi
   have hzz := hz (k / 2) hi
   rw [bg es default hi, iL es left _ hi] at hzz
   unfold z5 at hzz
   cases hDv : ins D v with
   | true => rfl
   | false =>
    exfalso
    rcases Nat.mod_two_eq_zero_or_one k with h0 | h0
    ·have e1 : 2 * (k / 2) = k := by omega
     have e2 : twin k = 2 * (k / 2) + 1 := by unfold twin; rw [if_pos h0]; omega
     rw [e1] at o2 hcap hzz
     rw [e2, o4] at hk2
     rw [h2] at o2
     rw [hk2, <- o2, hu, hDv, if_pos ⟨rfl, rfl⟩] at hzz
     omega
    ·have e1 : 2 * (k / 2) + 1 = k := by omega
     have e2 : twin k = 2 * (k / 2) := by unfold twin; rw [if_neg (by omega)]; omega
     rw [e1] at o4 hzz
     rw [e2, o2] at hk2
     rw [h2] at o4
     rw [hk2, <- o4, hu, hDv, if_neg (fun h => Bool.noConfusion h.1), if_pos ⟨rfl, rfl⟩] at hzz
     omega
 intro v hvi
 rw [ig] at hvi
 obtain ⟨j, hj⟩ := Int.eq_ofNat_of_zero_le (by simpa using hvi)
 exact key j v hj
end Go.Proofs.Yteamkjblpglliaa
