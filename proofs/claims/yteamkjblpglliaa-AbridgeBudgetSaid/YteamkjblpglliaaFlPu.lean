import Derived.Test.YteamkjblpglliaaFlBfs
set_option linter.unusedSimpArgs false
set_option linter.unusedVariables false
namespace Go.Proofs.Yteamkjblpglliaa
structure t5 (n nt : Nat) (to : List Nat) (outs : List (List Nat)) : Prop where
 ev : nt % 2 = 0
 tl : to.length = nt
 ol : outs.length = n
 ends : ∀ k, k < nt -> to.getD k 0 < n
 out : ∀ v k, k ∈ outs.getD v [] <-> k < nt /\ to.getD (twin k) 0 = v
 ne : ∀ k, k < nt -> to.getD k 0 ≠ to.getD (twin k) 0
theorem oX {nt k : Nat} (he : nt % 2 = 0) (hk : k < nt) : twin k < nt := by unfold twin; split <;> omega
def give (to : List Nat) (left : List Int) (u i : Nat) : Int :=
 (if to.getD (2 * i + 1) 0 = u then left.getD (2 * i + 1) 0 else 0) - (if to.getD (2 * i) 0 = u then left.getD (2 * i + 1) 0 else 0)
def iU (to : List Nat) (left : List Int) (u : Nat) : Nat -> Int
 | 0 => 0
 | m + 1 => iU to left u m + give to left u m
theorem sG {to : List Nat} {left left' : List Int} {u : Nat} : ∀ m, (∀ i, i < m -> give to left' u i = give to left u i) -> iU to left' u m = iU to left u m := by
 intro m
 induction m with
 | zero => intro _; rfl
 | succ m ih => intro h; simp only [iU]; rw [ih (fun i hi => h i (by omega)), h m (by omega)]
theorem xl {to : List Nat} {left left' : List Int} {u j : Nat} {d : Int} (hj : give to left' u j = give to left u j + d) (h : ∀ i, i ≠ j -> give to left' u i = give to left u i) : ∀ m, j < m -> iU to left' u m = iU to left u m + d := by
 intro m
 induction m with
 | zero => intro h; omega
 | succ m ih =>
  intro hm
  simp only [iU]
  by_cases e : j = m
  ·subst e
   rw [sG j (fun i hi => h i (by omega)), hj]
   omega
  ·rw [ih (by omega), h m (by omega)]
   omega
theorem nW (left : List Int) (k : Nat) (x : Int) : (moved left k x).length = left.length := by simp [moved]
theorem jS (left : List Int) (k : Nat) (x : Int) (hk : k < left.length) (ht : twin k < left.length) (j : Nat) :
  (moved left k x).getD j 0 = if j = k then left.getD k 0 - x else if j = twin k then left.getD (twin k) 0 + x else left.getD j 0 := by
 unfold moved
 have h1 := o6 k
 split
 ·rename_i e
  subst e
  rw [bB _ _ _ (Ne.symm h1), db _ _ _ hk]
 ·rename_i e
  split
  ·rename_i e2
   rw [e2, db _ _ _ (by simpa using ht)]
  ·rename_i e2
   rw [bB _ _ _ e2, bB _ _ _ e]
theorem tS (left : List Int) (k : Nat) (hk : k < left.length) (ht : twin k < left.length) : moved left k 0 = left := by
 apply List.ext_getElem
 ·exact nW _ _ _
 ·intro j h1 h2
  have := jS left k 0 hk ht j
  rw [bg _ _ h1] at this
  rw [this]
  split
  ·rename_i e; subst e; rw [bg _ _ h2]; omega
  ·split
   ·rename_i e; subst e; rw [bg _ _ h2]; omega
   ·rw [bg _ _ h2]
theorem kE (u v : Nat) (x : Int) : (if u = v then x else 0) = if v = u then x else 0 := by
 by_cases h : u = v
 ·subst h; rfl
 ·rw [if_neg h, if_neg (fun e => h e.symm)]
theorem sy {n nt : Nat} {to : List Nat} {outs : List (List Nat)} (hN : t5 n nt to outs) {left : List Int} (hl : left.length = nt) {k v w : Nat} (hk : k < nt) (hv : to.getD (twin k) 0 = v) (hw : to.getD k 0 = w) (x : Int) (u : Nat) :
  iU to (moved left k x) u (nt / 2) = iU to left u (nt / 2) + (if u = v then x else 0) - (if u = w then x else 0) := by
 have ht := oX hN.ev hk
 have hg := jS left k x (by omega) (by omega)
 have hvw : w ≠ v := by rw [<- hv, <- hw]; exact hN.ne k hk
 have hother : ∀ i, i ≠ k / 2 -> give to (moved left k x) u i = give to left u i := by
  intro i hi
  unfold give
  have h1 : (moved left k x).getD (2 * i + 1) 0 = left.getD (2 * i + 1) 0 := by
   rw [hg, if_neg (by omega), if_neg (by unfold twin; split <;> omega)]
  rw [h1]
 have hthis : give to (moved left k x) u (k / 2) = give to left u (k / 2) + ((if u = v then x else 0) - (if u = w then x else 0)) := by
  unfold give
  rcases Nat.mod_two_eq_zero_or_one k with h0 | h0
  ·have e1 : 2 * (k / 2) = k := by omega
   have e2 : twin k = k + 1 := by unfold twin; rw [if_pos h0]
   rw [e1]
   rw [e2] at hv
   have hfk : (moved left k x).getD (k + 1) 0 = left.getD (k + 1) 0 + x := by rw [hg, if_neg (by omega), if_pos e2.symm, e2]
   rw [hv, hw, hfk, kE u v, kE u w]
   split <;> split <;> omega
  ·have e1 : 2 * (k / 2) + 1 = k := by omega
   have e2 : twin k = 2 * (k / 2) := by unfold twin; rw [if_neg (by omega)]; omega
   have hfk : (moved left k x).getD k 0 = left.getD k 0 - x := by rw [hg, if_pos rfl]
   rw [e1, <- e2, hv, hw, hfk, kE u v, kE u w]
   split <;> split <;> omega
 have := xl hthis hother (nt / 2) (by have := hN.ev; omega)
 rw [this]; omega
def I2 (level : List Int) (to : List Nat) (outs : List (List Nat)) (t : Nat) (left : List Int) (ats : List Nat) : Prop :=
 ∀ u, u ≠ t -> ∀ p, p < ats.getD u 0 -> ∀ k, (outs.getD u [])[p]? = some k ->
  left.getD k 0 = 0 \/ lv level (to.getD k 0) ≠ lv level u + 1 \/ (to.getD k 0 ≠ t /\ ats.getD (to.getD k 0) 0 = (outs.getD (to.getD k 0) []).length)
structure Pu (nt t v : Nat) (to : List Nat) (outs : List (List Nat)) (level left0 : List Int) (ats0 : List Nat) (left : List Int) (ats : List Nat) (sent : Int) : Prop where
 lenl : left.length = left0.length
 lena : ats.length = ats0.length
 s0 : 0 <= sent
 nn : ∀ k, 0 <= left.getD k 0
 pair : ∀ k, k < nt -> left.getD k 0 + left.getD (twin k) 0 = left0.getD k 0 + left0.getD (twin k) 0
 net : ∀ u, iU to left u (nt / 2) = iU to left0 u (nt / 2) + (if u = v then sent else 0) - (if u = t then sent else 0)
 atle : ∀ u, ats.getD u 0 <= (outs.getD u []).length
 lowat : ∀ u, lv level u < lv level v -> ats.getD u 0 = ats0.getD u 0
 lowl : ∀ k, k < nt -> lv level (to.getD (twin k) 0) < lv level v -> left.getD k 0 = left0.getD k 0
 atmono : ∀ u, ats0.getD u 0 <= ats.getD u 0
 exh : I2 level to outs t left ats
 zero : sent = 0 -> left = left0
theorem Pu.refl {nt t v : Nat} {to : List Nat} {outs : List (List Nat)} {level left : List Int} {ats : List Nat} (h1 : ∀ k, 0 <= left.getD k 0) (h2 : ∀ u, ats.getD u 0 <= (outs.getD u []).length) (h3 : I2 level to outs t left ats) : Pu nt t v to outs level left ats left ats 0 :=
 ⟨rfl, rfl, Int.le_refl _, h1, fun _ _ => rfl, fun u => by split <;> split <;> omega, h2, fun _ _ => rfl, fun _ _ _ => rfl, fun _ => Nat.le_refl _, h3, fun _ => rfl⟩
theorem Pu.sink {nt t : Nat} {to : List Nat} {outs : List (List Nat)} {level left : List Int} {ats : List Nat} {x : Int} (hx : 0 <= x) (h1 : ∀ k, 0 <= left.getD k 0) (h2 : ∀ u, ats.getD u 0 <= (outs.getD u []).length) (h3 : I2 level to outs t left ats) : Pu nt t t to outs level left ats left ats x :=
 ⟨rfl, rfl, hx, h1, fun _ _ => rfl, fun u => by split <;> omega, h2, fun _ _ => rfl, fun _ _ _ => rfl, fun _ => Nat.le_refl _, h3, fun _ => rfl⟩
theorem tV (ats : List Nat) (v u : Nat) (hv : v < ats.length) : (ats.set v (ats.getD v 0 + 1)).getD u 0 = if u = v then ats.getD v 0 + 1 else ats.getD u 0 := by
 split
 ·rename_i e; subst e; exact db _ _ _ hv
 ·rename_i e; exact bB _ _ _ e
theorem Pu.pass {nt t v : Nat} {to : List Nat} {outs : List (List Nat)} {level left0 : List Int} {ats0 : List Nat} {left : List Int} {ats : List Nat} {sent : Int} (H : Pu nt t v to outs level left0 ats0 left ats sent) (hv : v < ats.length) (hlt : ats.getD v 0 < (outs.getD v []).length)
  {k : Nat} (hk : (outs.getD v [])[ats.getD v 0]? = some k) (hd : left.getD k 0 = 0 \/ lv level (to.getD k 0) ≠ lv level v + 1 \/ (to.getD k 0 ≠ t /\ ats.getD (to.getD k 0) 0 = (outs.getD (to.getD k 0) []).length)) :
  Pu nt t v to outs level left0 ats0 left (ats.set v (ats.getD v 0 + 1)) sent := by
 have hg := fun u => tV ats v u hv
 refine { H with lena := by simp [H.lena], atle := ?_, lowat := ?_, atmono := ?_, exh := ?_ }
 ·intro u; rw [hg]; split
  ·rename_i e; subst e; omega
  ·exact H.atle u
 ·intro u hu; rw [hg]; split
  ·rename_i e; subst e; omega
  ·exact H.lowat u hu
 ·intro u; rw [hg]; split
  ·rename_i e; subst e; have := H.atmono u; omega
  ·exact H.atmono u
 ·intro u hu p hp k' hk'
  have full : ∀ y, ats.getD y 0 = (outs.getD y []).length -> (ats.set v (ats.getD v 0 + 1)).getD y 0 = (outs.getD y []).length := by
   intro y hy
   rw [hg]; split
   ·rename_i e; subst e; omega
   ·exact hy
  have up : (left.getD k' 0 = 0 \/ lv level (to.getD k' 0) ≠ lv level u + 1 \/ (to.getD k' 0 ≠ t /\ ats.getD (to.getD k' 0) 0 = (outs.getD (to.getD k' 0) []).length)) -> (left.getD k' 0 = 0 \/ lv level (to.getD k' 0) ≠ lv level u + 1 \/ (to.getD k' 0 ≠ t /\ (ats.set v (ats.getD v 0 + 1)).getD (to.getD k' 0) 0 = (outs.getD (to.getD k' 0) []).length)) := by
   rintro (h | h | ⟨h, h'⟩)
   ·exact .inl h
   ·exact .inr (.inl h)
   ·exact .inr (.inr ⟨h, full _ h'⟩)
  refine up ?_
  rw [hg] at hp
  by_cases e : u = v
  ·subst e
   rw [if_pos rfl] at hp
   by_cases e2 : p = ats.getD u 0
   ·subst e2
    rw [hk] at hk'
    obtain rfl := Option.some.inj hk'
    exact hd
   ·exact H.exh u hu p (by omega) k' hk'
  ·rw [if_neg e] at hp
   exact H.exh u hu p hp k' hk'
theorem Pu.step {n nt t v : Nat} {to : List Nat} {outs : List (List Nat)} (hN : t5 n nt to outs) {level left0 : List Int} {ats0 : List Nat} {left : List Int} {ats : List Nat} {sent : Int} (H : Pu nt t v to outs level left0 ats0 left ats sent) (hll : left0.length = nt)
  {k w : Nat} (hk : k < nt) (hkv : to.getD (twin k) 0 = v) (hkw : to.getD k 0 = w) (hlw : lv level w = lv level v + 1) {left1 : List Int} {ats1 : List Nat} {x : Int} (H1 : Pu nt t w to outs level left ats left1 ats1 x) (hx : x <= left.getD k 0) :
  left1.getD k 0 = left.getD k 0 /\ ats1.getD v 0 = ats.getD v 0 /\ Pu nt t v to outs level left0 ats0 (moved left1 k x) ats1 (sent + x) := by
 have hl1 : left1.length = nt := by rw [H1.lenl, H.lenl, hll]
 have ht := oX hN.ev hk
 have hg := jS left1 k x (by omega) (by omega)
 have e1 : left1.getD k 0 = left.getD k 0 := H1.lowl k hk (by rw [hkv]; omega)
 have hx0 := H1.s0
 refine ⟨e1, H1.lowat v (by omega), ?_⟩
 refine ⟨by rw [nW, H1.lenl, H.lenl], by rw [H1.lena, H.lena], by have := H.s0; omega, ?_, ?_, ?_, H1.atle, ?_, ?_, ?_, ?_, ?_⟩
 ·intro j
  rw [hg]
  split
  ·omega
  ·split
   ·have := H1.nn (twin k); omega
   ·exact H1.nn j
 ·intro j hj
  have h2 := H1.pair j hj
  have h3 := H.pair j hj
  have h4 := H1.pair k hk
  have h5 := H.pair k hk
  rw [hg, hg]
  by_cases a : j = k
  ·subst a
   rw [if_pos rfl, if_neg (o6 j), if_pos rfl]
   omega
  ·rw [if_neg a]
   by_cases b : j = twin k
   ·subst b
    rw [if_pos rfl, fg, if_pos rfl]
    rw [fg] at h2 h3
    omega
   ·rw [if_neg b]
    have c : twin j ≠ k := fun e => b (by rw [<- e, fg])
    have d : twin j ≠ twin k := fun e => a (by rw [<- fg j, e, fg])
    rw [if_neg c, if_neg d]
    omega
 ·intro u
  rw [sy hN hl1 hk hkv hkw x u, H1.net u, H.net u]
  split <;> split <;> split <;> omega
 ·intro u hu
  rw [H1.lowat u (by omega), H.lowat u hu]
 ·intro j hj hlj
  rw [hg]
  have a : j ≠ k := fun e => by subst e; rw [hkv] at hlj; omega
  have b : j ≠ twin k := fun e => by subst e; rw [fg, hkw] at hlj; omega
  rw [if_neg a, if_neg b, H1.lowl j hj (by omega), H.lowl j hj hlj]
 ·intro u; have := H1.atmono u; have := H.atmono u; omega
 ·intro u hu p hp k' hk'
  have h := H1.exh u hu p hp k' hk'
  rcases h with h | h | h
  ·by_cases a : k' = k
   ·subst a
    left
    rw [hg, if_pos rfl]
    omega
   ·by_cases b : k' = twin k
    ·subst b
     have hm := List.mem_of_getElem? hk'
     have hu2 := ((hN.out u (twin k)).1 hm).2
     rw [fg, hkw] at hu2
     subst hu2
     right; left
     rw [hkv]; omega
    ·left; rw [hg, if_neg a, if_neg b]; exact h
  ·exact .inr (.inl h)
  ·exact .inr (.inr h)
 ·intro h0
  have hs := H.s0
  have hx1 : x = 0 := by omega
  have hs1 : sent = 0 := by omega
  subst hx1
  rw [tS _ _ (by omega) (by omega), H1.zero rfl, H.zero hs1]
end Go.Proofs.Yteamkjblpglliaa
