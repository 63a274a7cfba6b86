import Derived.Test.YteamkjblpglliaaClMax
import Derived.Test.YteamkjblpglliaaFlChk
import Derived.Test.YteamkjblpglliaaClFits
section
set_option linter.unusedSimpArgs false
set_option linter.unusedVariables false
namespace Go.Proofs.Yteamkjblpglliaa
open Go.RowKit Go.SL Go.HL
def BoundR (w : List Int) (nd : List (List Nat)) (fl : List Int) (x y : Int) : Prop :=
 (fl.length ≠ (dP w nd).length /\ x = 0 /\ y = 1) \/ (fl.length = (dP w nd).length /\ ∃ v e, CheckR (nd.length + 2) nd.length ((nd.length : Int) + 1) (dP w nd) fl v e /\ (e ≠ 0 /\ x = 0 /\ y = e \/ e = 0 /\ x = fb w nd.length - v /\ y = 0))
theorem CheckR.bd {n : Nat} {s t : Int} {es : List Edge} {fl : List Int} {v e : Int} (h : CheckR n s t es fl v e) (hc : ∀ e ∈ es, e.c <= 1099511627776) (hl : es.length <= 65536) : -72057594037927936 <= v /\ v <= 72057594037927936 := by
 rcases h with ⟨_, rfl, _⟩ | ⟨_, _, rfl, _⟩ | ⟨hok, _, rfl, _⟩
 ·omega
 ·omega
 ·have hb := uL n es fl es.length hc (Nat.le_refl _) hok
  by_cases hs : s.toNat < (fS n es fl es.length).length
  ·have := hb ((fS n es fl es.length).getD s.toNat 0) (by rw [List.getD_eq_getElem?_getD, List.getElem?_eq_getElem hs, Option.getD_some]; exact List.getElem_mem hs)
   omega
  ·rw [List.getD_eq_getElem?_getD, List.getElem?_eq_none (by omega)]; simp
set_option maxHeartbeats 8000000 in
theorem vw (w : List Int) (nd : List (List Nat)) (bad : List Bool) (fl : List Int) (g : Gr nd bad) (hw : WOK w) (hl : w.length = nd.length) : HT Try.prog 14 [I w, Gs (nd.map nl), I fl] (fun r => ∃ x y, r = .tup [.int .i64 x, .int .i64 y] /\ BoundR w nd fl x y) := by
 have hsz := g.size
 have hnl : (nd.map nl).length = nd.length := by simp
 have hNl := jy g w
 have hN2 : nd.length * nd.length <= 256 * 256 := Nat.mul_le_mul hsz hsz
 have hv := kS g hw
 have hnet := uI w nd bad g hw hl
 simp only [Gs, I] at hnet
 rw [hnl, hl] at hnet
 refine HT.of rfl JL (Nat.le_of_ble_eq_true rfl) ?_
 unfold KT
 simp only [Gs, I, aF, Nat.reduceAdd]
 rw [hnl, hl]
 repeat (first | refine ae ?_ | refine ac ?_ | refine ag ?_ | refine ab ?_)
 refine aX aE cI (hnet) ?_
 rintro _ rfl
 refine ⟨ce, _, _, _, _, _, bT, (by decide), aN, ?_⟩
 repeat (first | refine ae ?_ | refine ac ?_ | refine eh (by rfl) (by rfl) eg ?_ | refine bn ?_ | refine br ?_ | refine aD ?_ | refine ak ?_ | refine ag ?_ | refine ab ?_ | refine aw ?_)
 by_cases hfl : fl.length = (dP w nd).length
 ·have hck := xZ (nd.length + 2) (dP w nd) nd.length (nd.length + 1) fl hv hfl
  simp only [Es, I, Int.natCast_add, Int.cast_ofNat_Int] at hck
  refine aX aE cI (hck) ?_
  rintro _ ⟨v, e, rfl, hR⟩
  have hbd := hR.bd (fun e he => (hv.all e he).2.2.2.2.2.2) (by omega)
  have hE : e = 0 \/ e = 5 \/ e = 24 := by
   rcases hR with ⟨_, _, h⟩ | ⟨_, _, _, h⟩ | ⟨_, _, _, h⟩ <;> omega
  refine ⟨ce, _, _, _, _, _, bT, (by decide), aN, ?_⟩
  by_cases he : e = 0
  ·subst he
   repeat (first | refine ae ?_ | refine ac ?_ | refine a8 ?_ | refine br ?_ | refine aD ?_ | refine ak ?_ | refine ag ?_ | refine ab ?_ | refine ay ?_ | refine aw ?_ | refine ux (by rfl) kK ?_)
   refine bc [13, 41, 42, 43] (fun i : Nat => i <= nd.length) (fun i => ⟨[(13, .int .i64 (fb w i - v)), (41, .sl nd.length (HL.ints w)), (42, .int .i64 nd.length), (43, .int .i64 i)], [], 0⟩) (fun i => nd.length - i) 0 (by omega) (by simp only [fb]; rfl) ?_
   rintro i hi
   have hp := mp hw i
   by_cases hin : i < nd.length
   ·have hwi := hw i
    obtain ⟨x, hx⟩ : ∃ x, w.getD i 0 = x := ⟨_, rfl⟩
    have hnx : fb w (i + 1) = fb w i + max 0 x := by rw [<- hx]; rfl
    rw [hx] at hwi
    by_cases h0 : 0 < x
    ·have hnx2 : fb w i - v + x = fb w (i + 1) - v := by omega
     repeat (first | refine ae ?_ | refine aL ?_ | refine bl (by rfl) aP (by (try simp (disch := omega) only [go_sem, hx, hnx2]); try rfl) ?_ | refine ac ?_ | refine au ?_ | refine bH (by rfl) (by rfl) (by (try simp (disch := omega) only [go_sem, Int.reduceAdd, Int.reduceSub, Int.reduceMul, hx, hnx2]); try rfl) ?_ | refine am ?_ | refine ag ?_ | refine ab ?_ | refine ay ?_ | refine bV ?_ | refine aw ?_ | refine ya (by rfl) (by rfl) (by (try simp only [go_sem, reduceIte, hx, hnx2]); try rfl) ?_)
     exact bm [13, 41, 42, 43] (i + 1) hin (by omega) (by rw [if_pos h0, hnx2]; rfl)
    ·have hnx2 : fb w i - v = fb w (i + 1) - v := by omega
     repeat (first | refine ae ?_ | refine aL ?_ | refine bl (by rfl) aP (by (try simp (disch := omega) only [go_sem, hx]); try rfl) ?_ | refine ac ?_ | refine au ?_ | refine bH (by rfl) (by rfl) (by (try simp (disch := omega) only [go_sem, Int.reduceAdd, Int.reduceSub, Int.reduceMul, hx]); try rfl) ?_ | refine am ?_ | refine ag ?_ | refine ab ?_ | refine ay ?_ | refine bV ?_ | refine aw ?_ | refine ya (by rfl) (by rfl) (by (try simp only [go_sem, reduceIte, hx]); try rfl) ?_)
     exact bm [13, 41, 42, 43] (i + 1) hin (by omega) (by rw [if_neg h0, Int.add_zero, hnx2]; rfl)
   ·obtain rfl : i = nd.length := by omega
    repeat (first | refine ae ?_ | refine ac ?_ | refine au ?_ | refine aZ (by rfl) ?_ | refine ak ?_ | refine ag ?_ | refine ab ?_)
    refine ar ?_
    exact ⟨_, _, rfl, .inr ⟨hfl, v, 0, hR, .inr ⟨rfl, rfl, rfl⟩⟩⟩
  ·repeat (first | refine ae ?_ | refine ac ?_ | refine a8 ?_ | refine br ?_ | refine am ?_ | refine ag ?_ | refine ab ?_)
   refine ar ?_
   exact ⟨_, _, rfl, .inr ⟨hfl, v, e, hR, .inl ⟨he, rfl, rfl⟩⟩⟩
 ·have hck := pQ ((nd.length : Int) + 2) nd.length ((nd.length : Int) + 1) (dP w nd) fl (by omega) (.inr hfl)
  simp only [Es, I] at hck
  refine aX aE cI (hck) ?_
  rintro _ rfl
  refine ⟨ce, _, _, _, _, _, bT, (by decide), aN, ?_⟩
  repeat (first | refine ae ?_ | refine ac ?_ | refine a8 ?_ | refine br ?_ | refine am ?_ | refine ag ?_ | refine ab ?_)
  refine ar ?_
  exact ⟨_, _, rfl, .inl ⟨hfl, rfl, rfl⟩⟩
theorem s8 {w : List Int} {nd : List (List Nat)} {bad : List Bool} {fl : List Int} {x y : Int} (g : Gr nd bad) (hw : WOK w) (hf : lC ((nd.length : Int) + 2) nd.length ((nd.length : Int) + 1) (dP w nd) fl) (h : BoundR w nd fl x y) : y = 0 /\ x = fb w nd.length - gX (dP w nd) fl nd.length (dP w nd).length := by
 rcases h with ⟨h, _⟩ | ⟨_, v, e, hR, h⟩
 ·exact absurd hf.len h
 ·obtain ⟨h1, h2⟩ := tg (n := nd.length + 2) (s := nd.length) (t := nd.length + 1) (kS g hw) hf hR
  rcases h with ⟨h, _⟩ | ⟨_, h3, h4⟩
  ·exact absurd h2 h
  ·exact ⟨h4, by rw [h3, h1]⟩
end Go.Proofs.Yteamkjblpglliaa
end
section
set_option linter.unusedSimpArgs false
set_option linter.unusedVariables false
namespace Go.Proofs.Yteamkjblpglliaa
open Go.RowKit Go.SL Go.HL
def lacks (g : List (List Int)) (set : List Bool) (i : Nat) : Bool := set.getD i false && (g.getD i []).any fun j => !(set.getD j.toNat false)
def iP (g : List (List Int)) (set : List Bool) : Bool := fM g set && !((List.range g.length).any (lacks g set))
theorem mD {g : List (List Int)} {set : List Bool} (h : fM g set = true) : g.length = set.length /\ ∀ i j, j ∈ g.getD i [] -> 0 <= j /\ j < set.length := by
 unfold fM at h
 simp only [Bool.and_eq_true, decide_eq_true_eq, Bool.not_eq_true', List.any_eq_false] at h
 refine ⟨h.1, fun i j hj => ?_⟩
 by_cases hi : i < g.length
 ·have := h.2 _ (ie g [] hi)
  simp only [Bool.not_eq_true, List.any_eq_false] at this
  have := this j hj
  simp [iO] at this
  omega
 ·rw [List.getD_eq_getElem?_getD, List.getElem?_eq_none (by omega)] at hj; cases hj
theorem mR (n : Nat) (p : Nat -> Bool) : (List.range (n + 1)).any p = ((List.range n).any p || p n) := by simp [List.range_succ]
theorem p9 {n m : Nat} (p : Nat -> Bool) (h : (List.range n).any p = true) (hm : n <= m) : (List.range m).any p = true := by
 rw [List.any_eq_true] at h ⊢
 obtain ⟨x, hx, h2⟩ := h
 exact ⟨x, List.mem_range.2 (by have := List.mem_range.1 hx; omega), h2⟩
set_option maxHeartbeats 4000000 in
theorem E9 (g : List (List Int)) (set : List Bool) (h1 : g.length <= 9223372036854775807) (h2 : set.length <= 9223372036854775807) (h3 : ∀ i, (g.getD i []).length <= 9223372036854775807) :
  HT Try.prog 71 [Gs g, Bl set] (fun r => r = .bool (fM g set)) := by
 refine HT.of rfl Jb (Nat.le_of_ble_eq_true rfl) ?_
 unfold KM
 simp only [Gs, Bl, aF, Nat.reduceAdd]
 unfold fM
 by_cases he : g.length = set.length
 ·rw [<- he] at h2 ⊢
  repeat (first | refine ae ?_ | refine ac ?_ | refine a8 ?_ | refine aD ?_ | refine ak ?_ | refine ag ?_ | refine ab ?_ | refine ay ?_ | refine aw ?_)
  refine bc [0, 1, 5] (fun i : Nat => i <= g.length /\ (g.take i).any (fun r => r.any (iO g.length)) = false) (fun i => ⟨[(0, .sl g.length (aM g)), (1, .sl g.length (HL.bools set)), (5, .int .i64 i)], [], 0⟩) (fun i => g.length - i) 0 ⟨by omega, rfl⟩ rfl ?_
  rintro i ⟨hi, hno⟩
  by_cases hil : i < g.length
  ·obtain ⟨row, hrow⟩ : ∃ row, g.getD i [] = row := ⟨_, rfl⟩
   have hrl := h3 i
   rw [hrow] at hrl
   have hst := dS g (fun r => r.any (iO g.length)) [] hil
   rw [hrow, hno, Bool.false_or] at hst
   repeat (first | refine ae ?_ | refine ac ?_ | refine au ?_ | refine aD ?_ | refine am ?_ | refine ag ?_ | refine ab ?_ | refine ay ?_ | refine aw ?_)
   refine bc [0, 1, 5, 6] (fun k : Nat => k <= row.length /\ (row.take k).any (iO g.length) = false) (fun k => ⟨[(0, .sl g.length (aM g)), (1, .sl g.length (HL.bools set)), (5, .int .i64 i), (6, .int .i64 k)], [], 0⟩) (fun k => row.length - k) 0 ⟨by omega, rfl⟩ rfl ?_
   rintro k ⟨hk, hkn⟩
   by_cases hkl : k < row.length
   ·obtain ⟨x, hx⟩ : ∃ x, row.getD k 0 = x := ⟨_, rfl⟩
    have hst2 := dS row (iO g.length) 0 hkl
    rw [hx, hkn, Bool.false_or] at hst2
    have bad : iO g.length x = true -> (g.any fun r => r.any (iO g.length)) = true := fun h => fA g (fun r => r.any (iO g.length)) (hst.trans (fA row (iO g.length) (hst2.trans h)))
    by_cases h0 : x < 0
    ·repeat (first | refine ae ?_ | refine bE ?_ | refine aL ?_ | refine bl (by rfl) aP (by (try simp (disch := omega) only [go_sem, hrow, hx]); try rfl) ?_ | refine ac ?_ | refine au ?_ | refine aJ ?_ | refine aD ?_ | refine am ?_ | refine ag ?_ | refine ab ?_ | refine ay ?_ | refine aw ?_)
     refine ar ?_
     rw [bad (by simp [iO, h0])]; simp [bJ]
    ·by_cases h4 : (g.length : Int) <= x
     ·repeat (first | refine ae ?_ | refine aI ?_ | refine aL ?_ | refine bl (by rfl) aP (by (try simp (disch := omega) only [go_sem, hrow, hx]); try rfl) ?_ | refine ac ?_ | refine au ?_ | refine aK ?_ | refine aD ?_ | refine am ?_ | refine ag ?_ | refine ab ?_ | refine ay ?_ | refine aw ?_ | refine ef (by rfl) (by rfl) cA ?_)
      refine ar ?_
      rw [bad (by simp [iO, h4])]; simp [bJ]
     ·repeat (first | refine ae ?_ | refine aI ?_ | refine aL ?_ | refine bl (by rfl) aP (by (try simp (disch := omega) only [go_sem, hrow, hx]); try rfl) ?_ | refine ac ?_ | refine au ?_ | refine aK ?_ | refine bH (by rfl) (by rfl) (by (try simp (disch := omega) only [go_sem, Int.reduceAdd, Int.reduceSub, Int.reduceMul, hrow, hx]); try rfl) ?_ | refine aD ?_ | refine am ?_ | refine ak ?_ | refine ag ?_ | refine ab ?_ | refine ay ?_ | refine bV ?_ | refine aw ?_ | refine ef (by rfl) (by rfl) cA ?_)
      exact bm [0, 1, 5, 6] (k + 1) ⟨hkl, hst2.trans (by simp [iO, h0, h4])⟩ (by omega) rfl
   ·obtain rfl : k = row.length := by omega
    rw [List.take_length] at hkn
    repeat (first | refine ae ?_ | refine aL ?_ | refine bl (by rfl) aP (by (try simp (disch := omega) only [go_sem, hrow]); try rfl) ?_ | refine ac ?_ | refine au ?_ | refine bH (by rfl) (by rfl) (by (try simp (disch := omega) only [go_sem, Int.reduceAdd, Int.reduceSub, Int.reduceMul, hrow]); try rfl) ?_ | refine aD ?_ | refine aZ (by rfl) ?_ | refine ak ?_ | refine ag ?_ | refine ab ?_ | refine bV ?_)
    exact bm [0, 1, 5] (i + 1) ⟨hil, hst.trans hkn⟩ (by omega) rfl
  ·obtain rfl : i = g.length := by omega
   rw [List.take_length] at hno
   repeat (first | refine ae ?_ | refine ac ?_ | refine au ?_ | refine aD ?_ | refine aZ (by rfl) ?_ | refine ak ?_ | refine ag ?_ | refine ab ?_)
   refine ar ?_
   rw [hno]; simp [bJ]
 ·repeat (first | refine ae ?_ | refine ac ?_ | refine a8 ?_ | refine aD ?_ | refine am ?_ | refine ag ?_ | refine ab ?_)
  refine ar ?_
  simp [bJ, he]
theorem BP (x : Int) (set : List Bool) (h0 : 0 <= x) (h1 : x < set.length) : HT Try.prog 53 [.int .i64 x, .ptr [.sl set.length (HL.bools set)] 0] (fun r => r = .bool (!(set.getD x.toNat false))) := by
 refine HT.of rfl Jk (Nat.le_of_ble_eq_true rfl) ?_
 unfold K4
 simp only [aF, Nat.reduceAdd]
 obtain ⟨b, hb⟩ : ∃ b, set.getD x.toNat false = b := ⟨_, rfl⟩
 cases b with
 | true =>
  repeat (first | refine ae ?_ | refine aL ?_ | refine bl (by rfl) aP (by (try simp (disch := omega) only [go_sem, hb]); try rfl) ?_ | refine ac ?_ | refine ag ?_ | refine ab ?_ | refine dh (by rfl) ?_)
  refine ar ?_
  rw [hb]; rfl
 | false =>
  repeat (first | refine ae ?_ | refine aL ?_ | refine bl (by rfl) aP (by (try simp (disch := omega) only [go_sem, hb]); try rfl) ?_ | refine ac ?_ | refine ag ?_ | refine ab ?_ | refine dR (by rfl) ?_)
  refine ar ?_
  rw [hb]; rfl
set_option maxHeartbeats 4000000 in
theorem u9 (g : List (List Int)) (set : List Bool) (h1 : g.length <= 9223372036854775807) (h2 : set.length <= 9223372036854775807) (h3 : ∀ i, (g.getD i []).length <= 9223372036854775807) :
  HT Try.prog 28 [Gs g, Bl set] (fun r => r = .bool (iP g set)) := by
 refine HT.of rfl JS (Nat.le_of_ble_eq_true rfl) ?_
 unfold KB
 simp only [Gs, Bl, aF, Nat.reduceAdd]
 unfold iP
 repeat (first | refine ae ?_ | refine aB ?_ | refine ac ?_ | refine ag ?_ | refine ab ?_ | refine fK cR cy bh jk (by rfl) ?_)
 refine aX aE (by simp (disch := omega) only [bF, Gs, HV.thaw, bu, aG, aH, if_true, if_false, reduceIte, Nat.reduceEqDiff, aW, HV.strip, da, ci, cV, Nat.mul_one, List.cons_append, List.nil_append, List.append_nil, I, Bl, Es, List.getD_cons_zero, List.getD_cons_succ, HL.ints_strip, HL.bools_strip, cS, cO]; try rfl) (uB g set h1 h2 h3) ?_
 rintro _ rfl
 refine ⟨ce, _, _, _, _, _, bT, (by decide), aN, ?_⟩
 cases hf : fM g set with
 | false =>
  repeat (first | refine ae ?_ | refine ac ?_ | refine am ?_ | refine ag ?_ | refine ab ?_ | refine dR (by rfl) ?_)
  refine ar ?_
  simp [bJ]
 | true =>
  obtain ⟨he, hin⟩ := mD hf
  repeat (first | refine ae ?_ | refine aB ?_ | refine ac ?_ | refine aD ?_ | refine ak ?_ | refine ag ?_ | refine ab ?_ | refine ay ?_ | refine aw ?_ | refine dh (by rfl) ?_)
  refine bc [0, 3, 11, 12, 13] (fun i : Nat => i <= g.length /\ (List.range i).any (lacks g set) = false) (fun i => ⟨[(0, .sl g.length (aM g)), (3, .pref 0 [] 0), (11, .sl set.length (HL.bools set)), (12, .int .i64 set.length), (13, .int .i64 i)], [(0, .optr [.sl set.length (HL.bools set)])], 1⟩) (fun i => g.length - i) 0 ⟨by omega, rfl⟩ rfl ?_
  rintro i ⟨hi, hno⟩
  by_cases hil : i < g.length
  ·obtain ⟨row, hrow⟩ : ∃ row, g.getD i [] = row := ⟨_, rfl⟩
   have hrl := h3 i
   rw [hrow] at hrl
   have hst := mR i (lacks g set)
   rw [hno, Bool.false_or] at hst
   have hlk : lacks g set i = (set.getD i false && row.any fun j => !(set.getD j.toNat false)) := by unfold lacks; rw [hrow]
   cases hsi : set.getD i false with
   | false =>
    rw [hsi, Bool.false_and] at hlk
    repeat (first | refine ae ?_ | refine bE ?_ | refine aL ?_ | refine bl (by rfl) aP (by (try simp (disch := omega) only [go_sem, hsi]); try rfl) ?_ | refine ac ?_ | refine au ?_ | refine aK ?_ | refine bH (by rfl) (by rfl) (by (try simp (disch := omega) only [go_sem, Int.reduceAdd, Int.reduceSub, Int.reduceMul, hsi]); try rfl) ?_ | refine am ?_ | refine ak ?_ | refine ag ?_ | refine ab ?_ | refine ay ?_ | refine bV ?_ | refine aw ?_)
    exact bm [0, 3, 11, 12, 13] (i + 1) ⟨hil, hst.trans hlk⟩ (by omega) rfl
   | true =>
    rw [hsi, Bool.true_and] at hlk
    repeat (first | refine ae ?_ | refine aI ?_ | refine aL ?_ | refine bl (by rfl) aP (by (try simp (disch := omega) only [go_sem, hsi, hrow]); try rfl) ?_ | refine ac ?_ | refine au ?_ | refine am ?_ | refine ag ?_ | refine ab ?_ | refine ay ?_ | refine aw ?_)
    refine pS aE ?_
    repeat (first | refine aI ?_)
    refine aX aE cI (xE row set.length set _ (fun j => !(set.getD j.toNat false)) hrl fun x hx => BP x set (hin i x (hrow ▸ hx)).1 (hin i x (hrow ▸ hx)).2) ?_
    rintro _ rfl
    refine ⟨ce, _, _, _, _, _, bT, (by decide), aN, ?_⟩
    cases hb : (row.any fun j => !(set.getD j.toNat false)) with
    | true =>
     repeat (first | refine ae ?_ | refine ac ?_ | refine aJ ?_ | refine am ?_ | refine ag ?_ | refine ab ?_)
     refine ar ?_
     rw [p9 (lacks g set) (hst.trans (hlk.trans hb)) (show i + 1 <= g.length by omega)]; simp [bJ]
    | false =>
     repeat (first | refine ae ?_ | refine ac ?_ | refine aJ ?_ | refine bn ?_ | refine ak ?_ | refine ab ?_ | refine bV ?_ | refine aw ?_)
     exact bm [0, 3, 11, 12, 13] (i + 1) ⟨hil, hst.trans (hlk.trans hb)⟩ (by omega) rfl
  ·obtain rfl : i = g.length := by omega
   repeat (first | refine ae ?_ | refine ac ?_ | refine au ?_ | refine aZ (by rfl) ?_ | refine ak ?_ | refine ag ?_ | refine ab ?_)
   refine ar ?_
   rw [hno]; simp [bJ]
end Go.Proofs.Yteamkjblpglliaa
end
