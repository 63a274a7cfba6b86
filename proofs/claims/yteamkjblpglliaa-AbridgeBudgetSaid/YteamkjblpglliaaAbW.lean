import Derived.Test.YteamkjblpglliaaAbG
section
set_option linter.unusedSimpArgs false
set_option linter.unusedVariables false
namespace Go.Proofs.Yteamkjblpglliaa
open Go.RowKit Go.SL Go.HL
def lD (W C : List Int) (n : Nat) (B : Int) (s : Se) (set : List Bool) : Se := if wS C set n <= B /\ i7 W C n set s.best = true then { s with best := set } else s
theorem zz {W C : List Int} {n : Nat} {X Y : List Bool} (hX : X.length = n) (hY : Y.length = n) (h : i7 W C n X Y = true) : 0 < n := by
 cases n with
 | zero =>
  obtain rfl := List.eq_nil_of_length_eq_zero hX
  obtain rfl := List.eq_nil_of_length_eq_zero hY
  rw [p6] at h; cases h
 | succ n => omega
set_option maxHeartbeats 8000000 in
theorem mK {W C : List Int} {nd : List (List Nat)} {B : Int} (h : Pb W C nd B) (us : List (List Nat)) (s : Se) (set : List Bool) (hb : s.best.length = nd.length) (hs : set.length = nd.length) : HTI Try.prog 61 [.optr (iW W C nd us B s), Bl set] [0] (fun r outs => r = .tup [] /\ outs = [.optr (iW W C nd us B (lD W C nd.length B s set))]) := by
 have hsz := h.g.size
 have hlw := h.lw
 have hlc := h.lc
 have hnl : (nd.map nl).length = nd.length := by simp
 have o1 := bS C set h.cok (by omega) (by omega)
 have o2 := vF h us s set hb hs
 have hrs : ∀ l : List (List Nat), aW (aM (l.map nl)) = aM (l.map nl) := fun l => dc _
 simp only [I, Bl, Gs, iW, hlw, hlc, hb, hs, hnl] at o1 o2
 refine (HTI.frozen (K := fun r outs => r = .tup [] /\ ∃ cs, outs = [.optr cs] /\ aW cs = iW W C nd us B (lD W C nd.length B s set)) ?_ (fun r o hk => hk.2.imp fun _ h => h.1)).mono (by
  rintro r _ ⟨cs, ⟨rfl, cs', e1, e2⟩, rfl⟩
  simp only [List.cons.injEq, HV.optr.injEq, and_true] at e1
  subst e1
  exact ⟨rfl, by rw [e2]⟩)
 simp only [iW, I, Bl, Gs, hlw, hlc, hb, hs, hnl]
 refine HTI.of rfl Jo (Nat.le_of_ble_eq_true rfl) 2 [0] (by rfl) (by rfl) (⟨[(0, .pref 0 [] 0), (1, .sl nd.length (HL.bools set))], [(0, .optr [.sl nd.length (HL.ints W), .sl nd.length (HL.ints C), .sl nd.length (aM (nd.map nl)), .int .i64 B, .int .i64 s.steps, .sl nd.length (HL.bools s.best), .int .i64 s.num, .int .i64 s.den, .int .i64 s.value, .sl s.set.length (HL.bools s.set), .sl s.flow.length (HL.ints s.flow), .sl (us.map nl).length (aM (us.map nl))])], 1⟩ : St) rfl ?_
 unfold Kn
 repeat (first | refine ag ?_)
 refine bA aS aS (fun f _ r => if f = 75 then r = .bool (i7 W C nd.length set s.best) else r = .int .i64 (wS C set nd.length)) ?_
 repeat (first | refine ae ?_ | refine aB ?_ | refine ax ?_ | refine ba cy rfl ?_)
 refine bk aE cI (o1.mono fun r h => h) ⟨.int .i64 (wS C set nd.length), rfl, rfl⟩ ?_
 rintro r hr -
 obtain rfl : r = .int .i64 (wS C set nd.length) := hr
 refine ⟨ce, _, _, _, _, _, bT, (by decide), aN, ?_⟩
 by_cases h1 : wS C set nd.length <= B
 ·repeat (first | refine ae ?_ | refine aI ?_ | refine aB ?_ | refine fO (by rfl) (by rfl) cA ?_ | refine ax ?_ | refine ba cy rfl ?_)
  refine bk aE (by simp (disch := omega) only [bF, dc, HV.thaw, bu, aG, aH, if_true, if_false, reduceIte, Nat.reduceEqDiff, aW, HV.strip, da, ci, cV, Nat.mul_one, List.cons_append, List.nil_append, List.append_nil, I, Bl, Es, List.getD_cons_zero, List.getD_cons_succ, HL.ints_strip, HL.bools_strip, cS, cO]; try rfl) (o2.mono fun r h => h) ⟨.bool (i7 W C nd.length set s.best), rfl, rfl⟩ ?_
  rintro r hr -
  obtain rfl : r = .bool (i7 W C nd.length set s.best) := hr
  refine ⟨ce, _, _, _, _, _, bT, (by decide), aN, ?_⟩
  by_cases h2 : i7 W C nd.length set s.best = true
  ·have hn := zz hs hb h2
   have hcl := hO set (by omega) (by omega)
   simp only [Bl, hs] at hcl
   rw [h2]
   repeat (first | refine ae ?_ | refine ac ?_ | refine aJ ?_ | refine am ?_ | refine ab ?_)
   refine aX aE cI (hcl) ?_
   rintro _ rfl
   refine ⟨ce, _, _, _, _, _, bT, (by decide), aN, ?_⟩
   repeat (first | refine ac ?_ | refine ax ?_ | refine bv ?_ | refine ba cy rfl ?_)
   refine fR (rs := [0]) aE d9 kz ?_
   refine ⟨_, rfl, rfl, by simp, rfl, _, rfl, ?_⟩
   rw [lD, if_pos ⟨h1, h2⟩]
   simp only [iW, I, Bl, Gs, hlw, hlc, hs, hnl, aW, HV.strip, HL.ints_strip, HL.bools_strip, dc]
  ·have h2' : i7 W C nd.length set s.best = false := by simpa using h2
   rw [h2']
   repeat (first | refine ac ?_ | refine aJ ?_ | refine ak ?_ | refine aw ?_)
   refine fR (rs := [0]) aE d9 kz ?_
   refine ⟨_, rfl, rfl, by simp, rfl, _, rfl, ?_⟩
   rw [lD, if_neg (fun h => h2 h.2)]
   simp only [iW, I, Bl, Gs, hlw, hlc, hb, hnl, aW, HV.strip, HL.ints_strip, HL.bools_strip, dc]
 ·repeat (first | refine ae ?_ | refine bE ?_ | refine aB ?_ | refine ac ?_ | refine aK ?_ | refine ak ?_ | refine aw ?_ | refine fO (by rfl) (by rfl) cA ?_ | refine ax ?_ | refine ba cy rfl ?_)
  refine fR (rs := [0]) aE d9 kz ?_
  refine ⟨_, rfl, rfl, by simp, rfl, _, rfl, ?_⟩
  rw [lD, if_neg (fun h => h1 h.1)]
  simp only [iW, I, Bl, Gs, hlw, hlc, hb, hnl, aW, HV.strip, HL.ints_strip, HL.bools_strip, dc]
end Go.Proofs.Yteamkjblpglliaa
end
section
set_option linter.unusedSimpArgs false
set_option linter.unusedVariables false
namespace Go.Proofs.Yteamkjblpglliaa
open Go.RowKit Go.SL Go.HL
structure Dc (nd us : List (List Nat)) : Prop where
 len : us.length = nd.length
 mem : ∀ k j, j ∈ us.getD k [] <-> j < nd.length /\ k ∈ nd.getD j []
 row : ∀ k, (us.getD k []).length <= nd.length
def zy (nd : List (List Nat)) (X : List Bool) : Prop := ∀ u k, u < nd.length -> k ∈ nd.getD u [] -> X.getD k false = true -> X.getD u false = true
structure WInv (nd : List (List Nat)) (out : List Bool) (i : Nat) (D : List Bool) (L : List Nat) : Prop where
 len : D.length = nd.length
 sub : ∀ u : Nat, out.getD u false = true -> D.getD u false = true
 has : D.getD i false = true
 mem : ∀ u ∈ L, D.getD u false = true /\ u < nd.length
 cov : ∀ u : Nat, D.getD u false = true -> out.getD u false = true \/ u ∈ L
 nodup : L.Nodup
 fix : ∀ X : List Bool, bK nd X -> (∀ u : Nat, out.getD u false = true -> X.getD u false = false) -> X.getD i false = false -> ∀ u : Nat, D.getD u false = true -> X.getD u false = false
theorem gk (l : List Bool) (j k : Nat) (b : Bool) (h : j < l.length) : (l.set j b).getD k false = if j = k then b else l.getD k false := by
 simp only [List.getD_eq_getElem?_getD, List.getElem?_set]
 by_cases e : j = k
 ·subst e; simp [h]
 ·simp [e]
theorem WInv.start {nd : List (List Nat)} {out : List Bool} {i : Nat} (ho : out.length = nd.length) (hi : i < nd.length) : WInv nd out i (out.set i true) [i] := by
 have hg := fun k => gk out i k true (by omega)
 refine ⟨by simp [ho], fun u h => ?_, ?_, fun u h => ?_, fun u h => ?_, by simp, fun X _ h1 h2 u h => ?_⟩
 ·rw [hg]; split; rfl; exact h
 ·rw [hg, if_pos rfl]
 ·simp only [List.mem_singleton] at h
  subst h
  exact ⟨by rw [hg, if_pos rfl], hi⟩
 ·rw [hg] at h
  split at h
  ·rename_i e; right; simp [e]
  ·exact .inl h
 ·rw [hg] at h
  split at h
  ·rename_i e; rw [<- e]; exact h2
  ·exact h1 u h
theorem WInv.add {nd us : List (List Nat)} (hu : Dc nd us) {out : List Bool} {i : Nat} {D : List Bool} {L : List Nat} (h : WInv nd out i D L) {u j : Nat} (hL : u ∈ L) (hj : j ∈ us.getD u []) (hD : D.getD j false = false) : WInv nd out i (D.set j true) (L ++ [j]) := by
 obtain ⟨hjn, hju⟩ := (hu.mem u j).1 hj
 have hg := fun k => gk D j k true (by rw [h.len]; exact hjn)
 refine ⟨by simp [h.len], fun k hk => ?_, ?_, fun k hk => ?_, fun k hk => ?_, ?_, fun X hX h1 h2 k hk => ?_⟩
 ·rw [hg]; split; rfl; exact h.sub k hk
 ·rw [hg]; split; rfl; exact h.has
 ·rcases List.mem_append.1 hk with hk | hk
  ·exact ⟨by rw [hg]; split; rfl; exact (h.mem k hk).1, (h.mem k hk).2⟩
  ·simp only [List.mem_singleton] at hk
   subst hk
   exact ⟨by rw [hg, if_pos rfl], hjn⟩
 ·rw [hg] at hk
  split at hk
  ·rename_i e; right; simp [e]
  ·rcases h.cov k hk with h | h
   ·exact .inl h
   ·right; simp [h]
 ·refine List.nodup_append.2 ⟨h.nodup, by simp, fun a ha b hb e => ?_⟩
  simp only [List.mem_singleton] at hb
  subst hb
  subst e
  rw [(h.mem a ha).1] at hD; cases hD
 ·rw [hg] at hk
  split at hk
  ·rename_i e
   subst e
   cases hXj : X.getD j false with
   | false => rfl
   | true =>
    have h3 := hX j hXj u hju
    rw [h.fix X hX h1 h2 u (h.mem u hL).1] at h3; cases h3
  ·exact h.fix X hX h1 h2 k hk
theorem WInv.lens {nd : List (List Nat)} {out : List Bool} {i : Nat} {D : List Bool} {L : List Nat} (h : WInv nd out i D L) : L.length <= nd.length := ey h.nodup fun u hu => (h.mem u hu).2
structure Km (nd : List (List Nat)) (out : List Bool) (i : Nat) (D : List Bool) : Prop where
 len : D.length = nd.length
 sub : ∀ u : Nat, out.getD u false = true -> D.getD u false = true
 has : D.getD i false = true
 fix : ∀ X : List Bool, bK nd X -> (∀ u : Nat, out.getD u false = true -> X.getD u false = false) -> X.getD i false = false -> ∀ u : Nat, D.getD u false = true -> X.getD u false = false
 up : zy nd out -> zy nd D
theorem WInv.done {nd us : List (List Nat)} (hu : Dc nd us) {out : List Bool} {i : Nat} {D : List Bool} {L : List Nat} (h : WInv nd out i D L) (hd : ∀ u ∈ L, ∀ j ∈ us.getD u [], D.getD j false = true) : Km nd out i D :=
 ⟨h.len, h.sub, h.has, h.fix, fun ho u k hun huk hk => by
  rcases h.cov k hk with h1 | h1
  ·exact h.sub u (ho u k hun huk h1)
  ·exact hd k h1 u ((hu.mem k u).2 ⟨hun, huk⟩)⟩
set_option maxHeartbeats 8000000 in
theorem tD {W C : List Int} {nd us : List (List Nat)} {B : Int} (h : Pb W C nd B) (hu : Dc nd us) (s : Se) (out : List Bool) (i : Nat) (ho : out.length = nd.length) (hi : i < nd.length) : HT Try.prog 64 [.ptr (iW W C nd us B s) 0, Bl out, .int .i64 i] (fun r => ∃ D, r = .osl 1 nd.length (HL.bools D) /\ Km nd out i D) := by
 have hsz := h.g.size
 have hnl : (us.map nl).length = nd.length := by rw [List.length_map, hu.len]
 have hcl := hO out (by omega) (by omega)
 simp only [Bl, ho] at hcl
 refine HT.of rfl JV (Nat.le_of_ble_eq_true rfl) ?_
 unfold K2
 simp only [iW, I, Bl, Gs, aF, Nat.reduceAdd, ho, hnl]
 repeat (first | refine ae ?_ | refine ac ?_ | refine ag ?_ | refine ab ?_ | refine cW rfl (by rfl) cR ?_)
 refine aX aE cI (hcl) ?_
 rintro _ rfl
 refine ⟨ce, _, _, _, _, _, bT, (by decide), aN, ?_⟩
 repeat (first | refine ae ?_ | refine bQ ?_ | refine ac ?_ | refine ag ?_ | refine ab ?_ | refine ay ?_ | refine gT ?_ | refine cn ?_)
 refine bc [0, 1, 7, 8] (fun q : Nat × List Bool × List Nat => WInv nd out i q.2.1 q.2.2 /\ q.1 <= q.2.2.length /\ ∀ k, k < q.1 -> ∀ j ∈ us.getD (q.2.2.getD k 0) [], q.2.1.getD j false = true)
  (fun q => ⟨[(0, .ptr [I W, I C, Gs (nd.map nl), .int .i64 B, .int .i64 s.steps, Bl s.best, .int .i64 s.num, .int .i64 s.den, .int .i64 s.value, Bl s.set, I s.flow, .sl nd.length (aM (us.map nl))] 0), (1, .ref 0 [] 1 0 nd.length), (7, .ref 1 [] 1 0 q.2.2.length), (8, .int .i64 q.1)], [(0, .osl 1 nd.length (HL.bools q.2.1)), (1, .osl 1 q.2.2.length (HL.ints (nl q.2.2)))], 2⟩) (fun q => nd.length - q.1) (0, out.set i true, [i]) ⟨WInv.start ho hi, by simp, by simp⟩ rfl ?_
 rintro ⟨k, D, L⟩ ⟨hI, hk, hdn⟩
 simp only at hI hk hdn ⊢
 have hLl := hI.lens
 have hDl := hI.len
 have hnL := cL L
 by_cases hkL : k < L.length
 ·obtain ⟨u, hue⟩ : ∃ u, L.getD k 0 = u := ⟨_, rfl⟩
  have huL : u ∈ L := by rw [<- hue]; exact dl L k 0 hkL
  have hun := (hI.mem u huL).2
  have hrl := hu.row u
  obtain ⟨row, hrow⟩ : ∃ row, us.getD u [] = row := ⟨_, rfl⟩
  rw [hrow] at hrl
  have hnr := cL row
  repeat (first | refine ae ?_ | refine ac ?_ | refine au ?_ | refine gw (by rfl) ?_ | refine am ?_ | refine ag ?_ | refine ab ?_ | refine ay ?_ | refine aw ?_)
  refine bA aS aS (fun _ _ _ => False) ?_
  repeat (first | refine ae ?_ | refine aL ?_ | refine bQ ?_ | refine bl (by rfl) aP (by (try simp (disch := omega) only [go_sem, hue, cY, hrow]); try rfl) ?_ | refine dw (by rfl) bO (by (try simp (disch := omega) only [go_sem, reduceIte, Nat.reduceEqDiff, Nat.reduceAdd, Nat.reduceMul, hue, cY, hrow]); try rfl) aP (by (try simp (disch := omega) only [go_sem, hue, cY, hrow]); try rfl) cy ?_ | refine ac ?_ | refine aD ?_ | refine ay ?_ | refine kf (by rfl) (by rfl) ?_ | refine ba cy rfl ?_)
  refine bc [0, 1, 7, 8, 33, 34, 35] (fun q : Nat × List Bool × List Nat => WInv nd out i q.2.1 q.2.2 /\ q.1 <= row.length /\ k < q.2.2.length /\ q.2.2.getD k 0 = u /\ (∀ j ∈ row.take q.1, q.2.1.getD j false = true) /\ ∀ x, x < k -> ∀ j ∈ us.getD (q.2.2.getD x 0) [], q.2.1.getD j false = true)
   (fun q => ⟨[(0, .ptr [I W, I C, Gs (nd.map nl), .int .i64 B, .int .i64 s.steps, Bl s.best, .int .i64 s.num, .int .i64 s.den, .int .i64 s.value, Bl s.set, I s.flow, .sl nd.length (aM (us.map nl))] 0), (1, .ref 0 [] 1 0 nd.length), (7, .ref 1 [] 1 0 q.2.2.length), (8, .int .i64 k), (33, .sl row.length (HL.ints (nl row))), (34, .int .i64 row.length), (35, .int .i64 q.1)], [(0, .osl 1 nd.length (HL.bools q.2.1)), (1, .osl 1 q.2.2.length (HL.ints (nl q.2.2)))], 2⟩) (fun q => row.length - q.1) (0, D, L) ⟨hI, by simp, hkL, hue, by simp, hdn⟩ rfl ?_
  clear hI hk hdn hLl hDl hnL hkL hue huL
  rintro ⟨m, D, L⟩ ⟨hI, hm, hkL, hue, htk, hdn⟩
  simp only at hI hm hkL hue htk hdn ⊢
  have hLl := hI.lens
  have hDl := hI.len
  have hnL := cL L
  have huL : u ∈ L := by rw [<- hue]; exact dl L k 0 hkL
  by_cases hmr : m < row.length
  ·obtain ⟨j, hje⟩ : ∃ j, row.getD m 0 = j := ⟨_, rfl⟩
   have hjr : j ∈ us.getD u [] := by rw [hrow, <- hje]; exact dl row m 0 hmr
   have hjn := ((hu.mem u j).1 hjr).1
   have hts := bf row m 0 hmr
   rw [hje] at hts
   cases hDj : D.getD j false with
   | true =>
    repeat (first | refine ae ?_ | refine aL ?_ | refine bQ ?_ | refine bl (by rfl) aP (by (try simp (disch := omega) only [go_sem, hje, hDj]); try rfl) ?_ | refine dw (by rfl) bO (by (try simp (disch := omega) only [go_sem, reduceIte, Nat.reduceEqDiff, Nat.reduceAdd, Nat.reduceMul, hje, hDj]); try rfl) aP (by (try simp (disch := omega) only [go_sem, hje, hDj]); try rfl) cy ?_ | refine ac ?_ | refine au ?_ | refine bH (by rfl) (by rfl) (by (try simp (disch := omega) only [go_sem, Int.reduceAdd, Int.reduceSub, Int.reduceMul, hje, hDj]); try rfl) ?_ | refine am ?_ | refine ak ?_ | refine ag ?_ | refine ab ?_ | refine ay ?_ | refine bV ?_ | refine aw ?_ | refine dh (by rfl) ?_)
    refine bm [0, 1, 7, 8, 33, 34, 35] (m + 1, D, L) ⟨hI, hmr, hkL, hue, fun x hx => ?_, hdn⟩ cK rfl
    simp only at hx
    rw [hts] at hx
    rcases List.mem_append.1 hx with hx | hx
    ·exact htk x hx
    ·simp only [List.mem_singleton] at hx; subst hx; exact hDj
   | false =>
    have hsn : (L ++ [j]).length = L.length + 1 := by simp
    have hI' := hI.add hu huL hjr hDj
    have hg := fun x => gk D j x true (by omega)
    have mono : ∀ x : Nat, D.getD x false = true -> (D.set j true).getD x false = true := fun x hx => by rw [hg]; split; rfl; exact hx
    have hpre : ∀ x, x < L.length -> (L ++ [j]).getD x 0 = L.getD x 0 := fun x hx => by rw [List.getD_eq_getElem?_getD, List.getElem?_append_left hx, List.getD_eq_getElem?_getD]
    repeat (first | refine ae ?_ | refine aL ?_ | refine bQ ?_ | refine bl (by rfl) aP (by (try simp (disch := omega) only [go_sem, hje, hDj]); try rfl) ?_ | refine dw (by rfl) bO (by (try simp (disch := omega) only [go_sem, reduceIte, Nat.reduceEqDiff, Nat.reduceAdd, Nat.reduceMul, hje, hDj]); try rfl) aP (by (try simp (disch := omega) only [go_sem, hje, hDj]); try rfl) cy ?_ | refine ac ?_ | refine au ?_ | refine bH (by rfl) (by rfl) (by (try simp (disch := omega) only [go_sem, Int.reduceAdd, Int.reduceSub, Int.reduceMul, hje, hDj]); try rfl) ?_ | refine am ?_ | refine ag ?_ | refine ab ?_ | refine ay ?_ | refine bV ?_ | refine aw ?_ | refine dR (by rfl) ?_ | refine xC (by rfl) cy bh jk (by rfl) (by decide) bO bh aP (by (try simp (disch := omega) only [go_sem, hje, hDj]); try rfl) bh ?_ | refine cn ?_ | refine ec cR (by rfl) cy qa (by (try simp (disch := omega) only [go_sem, reduceIte, Nat.reduceEqDiff, Nat.reduceAdd, Nat.reduceMul, hje, hDj]); try omega) bO (by (try simp (disch := omega) only [go_sem, reduceIte, Nat.reduceEqDiff, Nat.reduceAdd, Nat.reduceMul, hje, hDj]); try rfl) cR (by omega) eZ aP (by (try simp (disch := omega) only [go_sem, reduceIte, Nat.reduceEqDiff, Nat.reduceAdd, Nat.reduceMul, hje, hDj]); try rfl) bh ?_)
    refine bm [0, 1, 7, 8, 33, 34, 35] (m + 1, D.set j true, L ++ [j]) ⟨hI', hmr, by simp only; omega, by simp only; rw [hpre k hkL]; exact hue, fun x hx => ?_, fun x hx y hy => ?_⟩ cK (by rw [hsn]; rfl)
    ·simp only at hx ⊢
     rw [hts] at hx
     rcases List.mem_append.1 hx with hx | hx
     ·exact mono x (htk x hx)
     ·simp only [List.mem_singleton] at hx; subst hx; rw [hg, if_pos rfl]
    ·simp only at hy ⊢
     rw [hpre x (by omega)] at hy
     exact mono y (hdn x hx y hy)
  ·obtain rfl : m = row.length := by omega
   rw [List.take_length] at htk
   repeat (first | refine ae ?_ | refine ac ?_ | refine au ?_ | refine bn ?_ | refine aZ (by rfl) ?_ | refine ak ?_ | refine ag ?_ | refine ab ?_ | refine bV ?_)
   refine bm [0, 1, 7, 8] (k + 1, D, L) ⟨hI, by simp only; omega, fun x hx y hy => ?_⟩ cK rfl
   simp only at hx hy ⊢
   by_cases hxk : x < k
   ·exact hdn x hxk y hy
   ·obtain rfl : x = k := by omega
    rw [hue, hrow] at hy
    exact htk y hy
 ·obtain rfl : k = L.length := by omega
  repeat (first | refine ae ?_ | refine ac ?_ | refine au ?_ | refine gw (by rfl) ?_ | refine aZ (by rfl) ?_ | refine ak ?_ | refine ag ?_ | refine ab ?_)
  refine ar ?_
  refine ⟨D, rfl, hI.done hu fun u huL j hj => ?_⟩
  obtain ⟨x, hx, rfl⟩ := List.getElem_of_mem huL
  refine hdn x hx j ?_
  rw [cH hx]
  exact hj
end Go.Proofs.Yteamkjblpglliaa
end
