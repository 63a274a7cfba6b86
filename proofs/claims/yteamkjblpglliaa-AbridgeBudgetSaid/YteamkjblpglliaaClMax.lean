import Derived.Test.YteamkjblpglliaaClNet
import Derived.Test.YteamkjblpglliaaNet
import Derived.Test.YteamkjblpglliaaList
import Derived.Test.YteamkjblpglliaaHb
import Derived.Test.YteamkjblpglliaaFlCut
import Derived.Test.YteamkjblpglliaaSlAny
section
set_option linter.unusedSimpArgs false
set_option linter.unusedVariables false
namespace Go.Proofs.Yteamkjblpglliaa
open Go.RowKit Go.SL
def fZ (D : List Bool) (es : List Edge) : Int := (es.map fun e => if gU D e then e.c else 0).sum
theorem uV (D : List Bool) (es : List Edge) : ∀ k, k <= es.length -> hZ D es k = fZ D (es.take k) := by
 intro k
 induction k with
 | zero => intro _; rfl
 | succ k ih =>
  intro hk
  have hkl : k < es.length := by omega
  rw [List.take_succ_eq_append_getElem hkl]
  simp only [hZ, fZ, List.map_append, List.sum_append, List.map_cons, List.map_nil, List.sum_cons, List.sum_nil]
  rw [ih (by omega)]
  have : es.getD k default = es[k] := by simp [hkl]
  rw [this]
  unfold fZ
  omega
theorem Bu (D : List Bool) (es : List Edge) : hZ D es es.length = fZ D es := by rw [uV D es _ (Nat.le_refl _), List.take_length]
end Go.Proofs.Yteamkjblpglliaa
end
section
set_option linter.unusedSimpArgs false
set_option linter.unusedVariables false
namespace Go.Proofs.Yteamkjblpglliaa
open Go.RowKit Go.SL
def wS (w : List Int) (X : List Bool) : Nat -> Int
 | 0 => 0
 | k + 1 => wS w X k + if X.getD k false then w.getD k 0 else 0
def fb (w : List Int) : Nat -> Int
 | 0 => 0
 | k + 1 => fb w k + max 0 (w.getD k 0)
def bK (nd : List (List Nat)) (X : List Bool) : Prop := ∀ u, X.getD u false = true -> ∀ j ∈ nd.getD u [], X.getD j false = true
structure iA (w : List Int) (nd : List (List Nat)) (S : List Bool) : Prop where
 len : S.length = nd.length
 closed : bK nd S
 most : ∀ X : List Bool, X.length = nd.length -> bK nd X -> wS w X nd.length <= wS w S nd.length
 least : ∀ X : List Bool, X.length = nd.length -> bK nd X -> wS w X nd.length = wS w S nd.length -> ∀ u : Nat, S.getD u false = true -> X.getD u false = true
section
variable {w : List Int} {nd : List (List Nat)} {bad : List Bool} {S X : List Bool}
theorem rp (D : List Bool) (es fs : List Edge) : fZ D (es ++ fs) = fZ D es + fZ D fs := by
 unfold fZ; rw [List.map_append, List.sum_append]
theorem mp (hw : WOK w) : ∀ k : Nat, 0 <= fb w k /\ fb w k <= (k : Int) * 2147483648
 | 0 => by simp [fb]
 | k + 1 => by
  have ih := mp hw k
  have := hw k
  simp only [fb]
  omega
theorem oB (w : List Int) (X : List Bool) : ∀ k, wS w X k <= fb w k
 | 0 => by simp [fb, wS]
 | k + 1 => by
  have ih := oB w X k
  simp only [fb, wS]
  split <;> omega
def iV (X : List Bool) : List Bool := X ++ [true, false]
theorem dW {n : Nat} (hl : X.length = n) (u : Nat) : ins (iV X) u = if u < n then X.getD u false else decide (u = n) := by
 unfold ins iV
 rw [List.getD_eq_getElem?_getD]
 by_cases h : u < n
 ·rw [if_pos h, List.getElem?_append_left (by omega), List.getD_eq_getElem?_getD]
 ·rw [if_neg h, List.getElem?_append_right (by omega), hl]
  by_cases h2 : u = n
  ·subst h2; simp
  ·by_cases h3 : u = n + 1
   ·subst h3; simp
   ·rw [List.getElem?_eq_none (by simp; omega)]; simp [h2]
theorem r6 {n : Nat} (hl : X.length = n) : lZ ((n : Int) + 2) n ((n : Int) + 1) (iV X) := by
 refine ⟨by simp [iV, hl], ?_, ?_⟩
 ·rw [Int.toNat_natCast, dW hl, if_neg (by omega)]; simp
 ·rw [show ((n : Int) + 1).toNat = n + 1 by omega, dW hl, if_neg (by omega)]; simp
theorem yb {n : Nat} {D : List Bool} (h : lZ ((n : Int) + 2) n ((n : Int) + 1) D) : D = iV (D.take n) := by
 have hl := h.len
 have h1 := h.src
 have h2 := h.snk
 rw [show ((n : Int) + 1).toNat = n + 1 by omega] at h2
 rw [Int.toNat_natCast] at h1
 have htl : (D.take n).length = n := by rw [List.length_take]; omega
 refine qR (by simp [iV]; omega) fun v => ?_
 rw [dW htl]
 by_cases hv : v < n
 ·rw [if_pos hv]
  unfold ins
  rw [List.getD_eq_getElem?_getD, List.getD_eq_getElem?_getD, List.getElem?_take_of_lt hv]
 ·rw [if_neg hv]
  by_cases h3 : v = n
  ·subst h3; rw [h1]; simp
  ·by_cases h4 : v = n + 1
   ·subst h4; rw [h2]; simp
   ·unfold ins
    rw [List.getD_eq_getElem?_getD, List.getElem?_eq_none (by omega)]; simp [h3]
theorem sI {n : Nat} (hl : X.length = n) {e : Edge} (he : l9 ((n : Int) + 2) e) : gU (iV X) e = (ins (iV X) e.f.toNat && !ins (iV X) e.t.toNat) := r9 (by simp [iV, hl]) he
theorem z8 {n : Nat} (hl : X.length = n) (hw : WOK w) : ∀ k, k <= n -> fZ (iV X) (dJ n w k) = fb w k - wS w X k
 | 0, _ => by simp [fZ, dJ, fb, wS]
 | k + 1, h => by
  have ih := z8 hl hw k (by omega)
  have hwk := hw k
  rw [dJ, rp, ih]
  simp only [fb, wS, l6]
  generalize w.getD k 0 = x at hwk ⊢
  have hk := dW hl k
  rw [if_pos (show k < n by omega)] at hk
  have hn := dW hl n
  rw [if_neg (by omega), decide_eq_true rfl] at hn
  have hn1 := dW hl (n + 1)
  rw [if_neg (by omega), decide_eq_false (by omega)] at hn1
  split
  ·rename_i hp
   have hc := sI hl (e := ⟨n, k, x⟩) ⟨by simp only; omega, by simp only; omega, by simp only; omega, by simp only; omega, by simp only; omega, by simp only; omega, by simp only; omega⟩
   simp only [Int.toNat_natCast] at hc
   rw [hn, hk, Bool.true_and] at hc
   simp only [fZ, List.map_cons, List.map_nil, List.sum_cons, List.sum_nil, hc]
   cases X.getD k false <;> simp <;> omega
  ·split
   ·rename_i hm
    have hc := sI hl (e := ⟨k, (n : Int) + 1, -x⟩) ⟨by simp only; omega, by simp only; omega, by simp only; omega, by simp only; omega, by simp only; omega, by simp only; omega, by simp only; omega⟩
    simp only [Int.toNat_natCast] at hc
    rw [show ((n : Int) + 1).toNat = n + 1 by omega, hn1, hk, Bool.not_false, Bool.and_true] at hc
    simp only [fZ, List.map_cons, List.map_nil, List.sum_cons, List.sum_nil, hc]
    cases X.getD k false <;> simp <;> omega
   ·have : x = 0 := by omega
    rw [this]
    simp [fZ]
theorem xM (D : List Bool) (es : List Edge) (h0 : ∀ e ∈ es, 0 <= e.c) : 0 <= fZ D es /\ (∀ e ∈ es, gU D e = true -> e.c <= fZ D es) /\ ((∀ e ∈ es, gU D e = false) -> fZ D es = 0) := by
 induction es with
 | nil => simp [fZ]
 | cons a es ih =>
  obtain ⟨i1, i2, i3⟩ := ih fun e he => h0 e (by simp [he])
  have ha := h0 a (by simp)
  have e : fZ D (a :: es) = (if gU D a then a.c else 0) + fZ D es := by simp [fZ]
  rw [e]
  refine ⟨by split <;> omega, fun x hx hc => ?_, fun h => ?_⟩
  ·rcases List.mem_cons.1 hx with rfl | hx
   ·rw [if_pos hc]; omega
   ·have := i2 x hx hc
    split <;> omega
  ·rw [if_neg (by rw [h a (by simp)]; decide), i3 fun x hx => h x (by simp [hx])]; rfl
theorem wo (g : Gr nd bad) (hl : X.length = nd.length) : 0 <= fZ (iV X) (dG nd nd.length) /\ (bK nd X -> fZ (iV X) (dG nd nd.length) = 0) /\ (¬ bK nd X -> 1099511627776 <= fZ (iV X) (dG nd nd.length)) := by
 have hc : ∀ e ∈ dG nd nd.length, e.c = 1099511627776 := fun e he => by obtain ⟨i, j, _, _, _, rfl⟩ := mem_nEdges.1 he; rfl
 obtain ⟨h1, h2, h3⟩ := xM (iV X) (dG nd nd.length) fun e he => by rw [hc e he]; omega
 have cr : ∀ i j, i < nd.length -> j ∈ nd.getD i [] -> j ≠ i -> gU (iV X) ⟨i, j, 1099511627776⟩ = (X.getD i false && !X.getD j false) := fun i j hi hj hne => by
  have hjn := g.lt i j hj
  rw [sI hl ⟨by simp only; omega, by simp only; omega, by simp only; omega, by simp only; omega, by simp only; omega, by simp only; omega, by simp only; omega⟩]
  simp only [Int.toNat_natCast]
  rw [dW hl, dW hl, if_pos hi, if_pos hjn]
 refine ⟨h1, fun hcl => h3 fun e he => ?_, fun hn => ?_⟩
 ·obtain ⟨i, j, hi, hj, hne, rfl⟩ := mem_nEdges.1 he
  rw [cr i j hi hj hne]
  cases hx : X.getD i false with
  | false => rfl
  | true => rw [hcl i hx j hj]; rfl
 ·have : ∃ u j, X.getD u false = true /\ j ∈ nd.getD u [] /\ X.getD j false = false := by
   apply Classical.byContradiction
   intro hno
   refine hn fun u hu j hj => ?_
   cases hx : X.getD j false with
   | true => rfl
   | false => exact absurd ⟨u, j, hu, hj, hx⟩ hno
  obtain ⟨u, j, hu, hj, hx⟩ := this
  have hul : u < nd.length := by
   rw [<- hl]
   apply Classical.byContradiction
   intro h
   rw [List.getD_eq_getElem?_getD, List.getElem?_eq_none (by omega)] at hu; cases hu
  have hne : j ≠ u := fun e => by rw [e, hu] at hx; cases hx
  have := h2 ⟨u, j, 1099511627776⟩ (mem_nEdges.2 ⟨u, j, hul, hj, hne, rfl⟩) (by rw [cr u j hul hj hne, hu, hx]; rfl)
  exact this
theorem pV (g : Gr nd bad) (hw : WOK w) (hl : X.length = nd.length) : hZ (iV X) (dP w nd) (dP w nd).length = fb w nd.length - wS w X nd.length + fZ (iV X) (dG nd nd.length) := by
 rw [Bu]
 unfold dP
 rw [rp, z8 hl hw _ (Nat.le_refl _)]
theorem uP (g : Gr nd bad) (hw : WOK w) {fl : List Int} {set : List Bool} {value : Int} (h : Found ((nd.length : Int) + 2) nd.length ((nd.length : Int) + 1) (dP w nd) fl set value) :
  iA w nd (set.take nd.length) /\ value = fb w nd.length - wS w (set.take nd.length) nd.length := by
 have hsz := g.size
 have hv := t6 g hw
 have hD := yb h.cut
 have hsl := h.cut.len
 have hl : (set.take nd.length).length = nd.length := by rw [List.length_take]; omega
 have hcap := h.cap
 rw [hD, pV g hw hl] at hcap
 obtain ⟨n1, n2, n3⟩ := wo g hl
 have hpos := mp hw nd.length
 have up : ∀ X : List Bool, X.length = nd.length -> bK nd X -> value <= fb w nd.length - wS w X nd.length := fun X hX hc => by
  have := h.le_cap hv (r6 hX)
  rw [pV g hw hX, (wo g hX).2.1 hc] at this
  omega
 have hcl : bK nd (set.take nd.length) := by
  apply Classical.byContradiction
  intro hn
  have h3 := n3 hn
  have h0 := up (List.replicate nd.length false) (by simp) (fun u hu => by
   rw [List.getD_eq_getElem?_getD, List.getElem?_replicate] at hu
   split at hu <;> cases hu)
  have hz : ∀ k, wS w (List.replicate nd.length false) k = 0 := by
   intro k
   induction k with
   | zero => rfl
   | succ k ih =>
    simp only [wS, ih]
    have : (List.replicate nd.length false).getD k false = false := by
     rw [List.getD_eq_getElem?_getD, List.getElem?_replicate]; split <;> rfl
    rw [this]; rfl
  rw [hz] at h0
  have := oB w (set.take nd.length) nd.length
  omega
 have hval : value = fb w nd.length - wS w (set.take nd.length) nd.length := by rw [n2 hcl] at hcap; omega
 refine ⟨⟨hl, hcl, fun X hX hc => by have := up X hX hc; omega, fun X hX hc he u hu => ?_⟩, hval⟩
 have := h.least (iV X) (r6 hX) (by rw [pV g hw hX, (wo g hX).2.1 hc]; omega) u (by
  rw [hD, dW hl]
  have hul : u < nd.length := by
   rw [<- hl]
   apply Classical.byContradiction
   intro h
   rw [List.getD_eq_getElem?_getD, List.getElem?_eq_none (by omega)] at hu; cases hu
  rw [if_pos hul]; exact hu)
 rw [dW hX] at this
 split at this
 ·exact this
 ·rename_i hnl
  rw [List.getD_eq_getElem?_getD, List.getElem?_eq_none (by rw [hl]; omega)] at hu; cases hu
end
end Go.Proofs.Yteamkjblpglliaa
end
section
set_option linter.unusedSimpArgs false
set_option linter.unusedVariables false
namespace Go.Proofs.Yteamkjblpglliaa
open Go.RowKit Go.SL
end Go.Proofs.Yteamkjblpglliaa
end
section
set_option linter.unusedSimpArgs false
set_option linter.unusedVariables false
namespace Go.Proofs.Yteamkjblpglliaa
open Go.RowKit Go.SL
end Go.Proofs.Yteamkjblpglliaa
end
section
set_option linter.unusedSimpArgs false
set_option linter.unusedVariables false
namespace Go.Proofs.Yteamkjblpglliaa
open Go.RowKit Go.SL Go.HL
theorem kG {f : FuncId} {x} (h : aY Try.prog f = some x) : k6 Try.prog f := by
 unfold aY at h
 split at h
 ·rename_i fn hfn
  split at h
  ·rename_i c rs hb _
   split at h
   ·cases h
   ·rename_i hn; exact ⟨fn, hfn, by rw [hb]; rfl, by simpa using hn⟩
  ·cases h
 ·cases h
theorem l8 {F : Nat -> Prop} {w w' : World} {K : HV -> Prop} {v : HV} {rv : Value} (hk : K v) (hb : Below w.heap.size w w') (ho : ∀ (F : Nat -> Prop) (h : Hp), OW F h bI [v] [rv] []) : Er F w K (.returned rv) w' :=
 ⟨rv, v, [], rfl, hk, ho _ _, by simp, by simp, hb⟩
def Ju (n s t : Nat) (es : List Edge) (r : HV) : Prop := ∃ (fl : List Int) (set : List Bool) (value : Int), r = .tup [.int .i64 value, .osl 1 es.length (HL.ints fl), .int .i64 0] /\ Found n s t es fl set value
theorem B5 (n s t : Nat) (es : List Edge) (hv : VNet n s t es) : HT Try.prog 72 [.int .i64 n, Es es, .int .i64 s, .int .i64 t] (Ju n s t es) := by
 refine ⟨kG J8, fun w rargs F hF ho => ?_⟩
 obtain ⟨_, _, rfl, o1, q2⟩ := cG ho
 obtain ⟨_, _, rfl, o2, q3⟩ := cG q2
 obtain ⟨_, _, rfl, o3, q4⟩ := cG q3
 obtain ⟨_, _, rfl, o4, q5⟩ := cG q4
 obtain rfl := mC q5
 obtain ⟨a, cap, rfl, hr⟩ := kX hF o2
 obtain rfl := cE o1
 obtain rfl := cE o3
 obtain rfl := cE o4
 refine (yT n a _ cap es s t w hr rfl hv).mono ?_
 rintro e w' ⟨fl, set, value, a', cap', rfl, hf, hS⟩
 obtain ⟨fs, h1, h2, h3⟩ := um hS (i := 0) rfl (cs := HL.ints fl) (fun F h => xV fl)
 refine ⟨_, .tup [.int .i64 value, .osl 1 es.length (HL.ints fl), .int .i64 0], fs, rfl, ⟨fl, set, value, rfl, hf⟩, ?_, h2, h3, hS.below⟩
 have h4 := fun G => OW.tup (F := G) (h := w'.heap) (R := bI) (cs := [.int .i64 value, .osl 1 es.length (HL.ints fl), .int .i64 0]) (.int ((h1 G).cons1 (.int .nil))) .nil
 simpa using h4 _
def Jw (n s t : Nat) (es : List Edge) (r : HV) : Prop := ∃ (fl : List Int) (set : List Bool) (value : Int), r = .tup [.osl 1 n (HL.bools set), .int .i64 0] /\ Found n s t es fl set value
theorem Bc (n s t : Nat) (es : List Edge) (hv : VNet n s t es) : HT Try.prog 73 [.int .i64 n, Es es, .int .i64 s, .int .i64 t] (Jw n s t es) := by
 refine ⟨kG Kg, fun w rargs F hF ho => ?_⟩
 obtain ⟨_, _, rfl, o1, q2⟩ := cG ho
 obtain ⟨_, _, rfl, o2, q3⟩ := cG q2
 obtain ⟨_, _, rfl, o3, q4⟩ := cG q3
 obtain ⟨_, _, rfl, o4, q5⟩ := cG q4
 obtain rfl := mC q5
 obtain ⟨a, cap, rfl, hr⟩ := kX hF o2
 obtain rfl := cE o1
 obtain rfl := cE o3
 obtain rfl := cE o4
 refine (yL n a _ cap es s t w hr rfl hv).mono ?_
 rintro e w' ⟨fl, set, value, a', cap', rfl, hf, hS⟩
 obtain ⟨fs, h1, h2, h3⟩ := um hS (i := 0) rfl (cs := HL.bools set) (fun F h => uX set)
 refine ⟨_, .tup [.osl 1 n (HL.bools set), .int .i64 0], fs, rfl, ⟨fl, set, value, rfl, hf⟩, ?_, h2, h3, hS.below⟩
 have h4 := fun G => OW.tup (F := G) (h := w'.heap) (R := bI) (cs := [.osl 1 n (HL.bools set), .int .i64 0]) ((h1 G).cons1 (.int .nil)) .nil
 simpa using h4 _
theorem xZ (n : Nat) (es : List Edge) (s t : Nat) (fl : List Int) (hv : VNet n s t es) (hl : fl.length = es.length) : HT Try.prog 16 [.int .i64 n, Es es, .int .i64 s, .int .i64 t, I fl] (fun r => ∃ x y, r = .tup [.int .i64 x, .int .i64 y] /\ CheckR n s t es fl x y) := by
 refine ⟨kG Hr, fun w rargs F hF ho => ?_⟩
 obtain ⟨_, _, rfl, o1, q2⟩ := cG ho
 obtain ⟨_, _, rfl, o2, q3⟩ := cG q2
 obtain ⟨_, _, rfl, o3, q4⟩ := cG q3
 obtain ⟨_, _, rfl, o4, q5⟩ := cG q4
 obtain ⟨_, _, rfl, o5, q6⟩ := cG q5
 obtain rfl := mC q6
 obtain rfl := cE o1
 obtain rfl := cE o3
 obtain rfl := cE o4
 obtain ⟨a, cap, rfl, hr⟩ := kX hF o2
 obtain ⟨a2, cap2, rfl, hr2⟩ := zx hF o5
 have hm : es.length <= 9223372036854775807 := by have := hv.len; omega
 refine (vL n a _ cap es s t a2 _ cap2 fl w hr rfl hm hr2 rfl (by omega) hv hl.symm).mono ?_
 rintro e w' ⟨x, y, ⟨rfl, hb⟩, hR⟩
 refine l8 ⟨x, y, rfl, hR⟩ hb fun F h => ?_
 have := OW.tup (F := F) (h := h) (R := bI) (cs := [.int .i64 x, .int .i64 y]) (.int (.int .nil)) .nil
 simpa using this
end Go.Proofs.Yteamkjblpglliaa
end
section
set_option linter.unusedSimpArgs false
set_option linter.unusedVariables false
namespace Go.Proofs.Yteamkjblpglliaa
open Go.RowKit Go.SL Go.HL
theorem uh (w : List Int) (set : List Bool) (n : Nat) : ∀ k, k <= n -> wS w (set.take n) k = wS w set k
 | 0, _ => rfl
 | k + 1, h => by
  have ih := uh w set n k (by omega)
  simp only [wS, ih]
  rw [List.getD_eq_getElem?_getD, List.getElem?_take_of_lt (by omega), <- List.getD_eq_getElem?_getD]
theorem oR {w : List Int} (hw : WOK w) (X : List Bool) : ∀ k : Nat, -((k : Int) * 2147483648) <= wS w X k /\ wS w X k <= (k : Int) * 2147483648
 | 0 => by simp [wS]
 | k + 1 => by
  have ih := oR hw X k
  have := hw k
  simp only [wS]
  split <;> omega
theorem kS {w : List Int} {nd : List (List Nat)} {bad : List Bool} (g : Gr nd bad) (hw : WOK w) : VNet ((nd.length + 2 : Nat) : Int) (nd.length : Nat) ((nd.length + 1 : Nat) : Int) (dP w nd) := t6 g hw
def zP (w : List Int) (nd : List (List Nat)) (r : HV) : Prop := ∃ fl set value, r = .tup [.osl 1 nd.length (HL.bools (set.take nd.length)), .int .i64 (wS w (set.take nd.length) nd.length), .osl 1 (dP w nd).length (HL.ints fl), .int .i64 0] /\
 iA w nd (set.take nd.length) /\ Found ((nd.length : Int) + 2) nd.length ((nd.length : Int) + 1) (dP w nd) fl set value /\ value = fb w nd.length - wS w (set.take nd.length) nd.length
set_option maxHeartbeats 8000000 in
theorem ul (w : List Int) (nd : List (List Nat)) (bad : List Bool) (g : Gr nd bad) (hw : WOK w) (hl : w.length = nd.length) : HT Try.prog 57 [I w, Gs (nd.map nl)] (zP w nd) := by
 have hsz := g.size
 have hnl : (nd.map nl).length = nd.length := by simp
 have hNl := jy g w
 have hN2 : nd.length * nd.length <= 256 * 256 := Nat.mul_le_mul hsz hsz
 have hv := kS g hw
 have hnet := uI w nd bad g hw hl
 have hmx := B5 (nd.length + 2) nd.length (nd.length + 1) (dP w nd) hv
 have hct := Bc (nd.length + 2) nd.length (nd.length + 1) (dP w nd) hv
 simp only [Gs, I] at hnet
 rw [hnl, hl] at hnet
 simp only [Es, Int.natCast_add, Int.cast_ofNat_Int] at hmx hct
 refine HT.of rfl JB (Nat.le_of_ble_eq_true rfl) ?_
 unfold KX
 simp only [Gs, I, aF, Nat.reduceAdd]
 unfold zP
 rw [hnl, hl]
 repeat (first | refine ae ?_ | refine ac ?_ | refine ag ?_ | refine ab ?_ | refine cW rfl (by rfl) cR ?_)
 refine aX aE cI (hnet) ?_
 rintro _ rfl
 refine ⟨ce, _, _, _, _, _, bT, (by decide), aN, ?_⟩
 repeat (first | refine ae ?_ | refine ac ?_ | refine eh (by rfl) (by rfl) eg ?_ | refine bn ?_ | refine br ?_ | refine aD ?_ | refine ak ?_ | refine ag ?_ | refine ab ?_ | refine aw ?_)
 refine aX aE cI (hmx) ?_
 rintro _ ⟨fl, set1, v1, rfl, hF1⟩
 refine ⟨ce, _, _, _, _, _, bT, (by decide), aN, ?_⟩
 repeat (first | refine ae ?_ | refine ac ?_ | refine a8 ?_ | refine bn ?_ | refine br ?_ | refine ak ?_ | refine ag ?_ | refine ab ?_ | refine aw ?_)
 refine aX aE cI (hct) ?_
 rintro _ ⟨fl2, set, v, rfl, hF⟩
 refine ⟨ce, _, _, _, _, _, bT, (by decide), aN, ?_⟩
 have hv1 := hF1.val_eq hv hF
 have hs1 := hF1.set_eq hv hF
 subst hv1 hs1
 have hsl := hF1.cut.len
 have hsl2 : set1.length = nd.length + 2 := by omega
 obtain ⟨hM, hval⟩ := uP (w := w) g hw (fl := fl) (set := set1) (value := v1) hF1
 repeat (first | refine ae ?_ | refine ac ?_ | refine a8 ?_ | refine br ?_ | refine aD ?_ | refine ak ?_ | refine ag ?_ | refine ab ?_ | refine ay ?_ | refine aw ?_)
 refine bc [10, 12, 14, 15, 53, 54, 55] (fun i : Nat => i <= nd.length)
  (fun i => ⟨[(10, .int .i64 nd.length), (12, .ref 0 [] 1 0 (dP w nd).length), (14, .ref 1 [] 1 0 (nd.length + 2)), (15, .int .i64 (wS w set1 i)), (53, .sl nd.length (HL.ints w)), (54, .int .i64 nd.length), (55, .int .i64 i)], [(0, .osl 1 (dP w nd).length (HL.ints fl)), (1, .osl 1 (nd.length + 2) (HL.bools set1))], 2⟩)
  (fun i => nd.length - i) 0 (by omega) rfl ?_
 rintro i hi
 have hbd := oR hw set1 i
 by_cases hin : i < nd.length
 ·have hwi := hw i
  have hnx : wS w set1 (i + 1) = wS w set1 i + if set1.getD i false then w.getD i 0 else 0 := rfl
  obtain ⟨x, hx⟩ : ∃ x, w.getD i 0 = x := ⟨_, rfl⟩
  rw [hx] at hwi hnx
  cases hb : set1.getD i false with
  | true =>
   rw [hb, if_pos rfl] at hnx
   repeat (first | refine ae ?_ | refine aL ?_ | refine bQ ?_ | refine bl (by rfl) aP (by (try simp (disch := omega) only [go_sem, hb, hx, hnx]); try rfl) ?_ | refine dw (by rfl) bO (by (try simp (disch := omega) only [go_sem, reduceIte, Nat.reduceEqDiff, Nat.reduceAdd, Nat.reduceMul, hb, hx, hnx]); try rfl) aP (by (try simp (disch := omega) only [go_sem, hb, hx, hnx]); try rfl) cy ?_ | refine ac ?_ | refine au ?_ | refine bH (by rfl) (by rfl) (by (try simp (disch := omega) only [go_sem, Int.reduceAdd, Int.reduceSub, Int.reduceMul, hb, hx, hnx]); try rfl) ?_ | refine am ?_ | refine ag ?_ | refine ab ?_ | refine ay ?_ | refine bV ?_ | refine aw ?_)
   exact bm [10, 12, 14, 15, 53, 54, 55] (i + 1) hin (by omega) (by rw [hnx]; rfl)
  | false =>
   rw [hb, if_neg (by decide), Int.add_zero] at hnx
   repeat (first | refine ae ?_ | refine aL ?_ | refine bQ ?_ | refine bl (by rfl) aP (by (try simp (disch := omega) only [go_sem, hb, hx, hnx]); try rfl) ?_ | refine dw (by rfl) bO (by (try simp (disch := omega) only [go_sem, reduceIte, Nat.reduceEqDiff, Nat.reduceAdd, Nat.reduceMul, hb, hx, hnx]); try rfl) aP (by (try simp (disch := omega) only [go_sem, hb, hx, hnx]); try rfl) cy ?_ | refine ac ?_ | refine au ?_ | refine bH (by rfl) (by rfl) (by (try simp (disch := omega) only [go_sem, Int.reduceAdd, Int.reduceSub, Int.reduceMul, hb, hx, hnx]); try rfl) ?_ | refine am ?_ | refine ak ?_ | refine ag ?_ | refine ab ?_ | refine ay ?_ | refine bV ?_ | refine aw ?_)
   exact bm [10, 12, 14, 15, 53, 54, 55] (i + 1) hin (by omega) (by rw [hnx]; rfl)
 ·obtain rfl : i = nd.length := by omega
  have htk : (HL.bools set1).take (nd.length * 1) = HL.bools (set1.take nd.length) := by simp [HL.bools, List.map_take]
  repeat (first | refine ae ?_ | refine ac ?_ | refine au ?_ | refine aZ (by rfl) ?_ | refine ak ?_ | refine ag ?_ | refine ab ?_ | refine xH (by rfl) (by rfl) (by rfl) (by omega) bh cR ?_)
  refine sB 4 [4, 5, 6, 7] (⟨[(4, .ref 0 [] 1 0 nd.length), (5, .int .i64 (wS w set1 nd.length)), (6, .ref 1 [] 1 0 (dP w nd).length), (7, .int .i64 0)], [(0, .osl 1 nd.length (HL.bools (set1.take nd.length))), (1, .osl 1 (dP w nd).length (HL.ints fl))], 2⟩ : St) rfl rfl (by omega) (HL.bools_flat _) (by decide) (by rw [htk]; rfl) ?_
  refine ar ?_
  exact ⟨fl, set1, v1, by rw [uh w set1 _ _ (Nat.le_refl _)]; rfl, hM, hF1, hval⟩
end Go.Proofs.Yteamkjblpglliaa
end
