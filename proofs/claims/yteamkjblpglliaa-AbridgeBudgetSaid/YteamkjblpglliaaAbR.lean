import Derived.Test.YteamkjblpglliaaAbT
set_option linter.unusedSimpArgs false
set_option linter.unusedVariables false
namespace Go.Proofs.Yteamkjblpglliaa
open Go.RowKit Go.SL Go.HL
def i6 (fr : Nat -> Bool) (n i : Nat) : List Nat := (List.range n).map fun j => if decide (j < i) && fr j then (cJ fr j).length else 0
theorem nC (fr : Nat -> Bool) (n i : Nat) : (i6 fr n i).length = n := by simp [i6]
theorem ve (fr : Nat -> Bool) (n : Nat) : HL.ints (List.replicate n 0) = HL.ints (nl (i6 fr n 0)) := by
 congr 1
 apply List.ext_getElem
 ·simp [nl, i6]
 ·intro k h1 h2; simp [nl, i6]
theorem vW {fr : Nat -> Bool} {n i : Nat} (h : fr i = false) : i6 fr n (i + 1) = i6 fr n i := by
 unfold i6
 apply List.map_congr_left
 intro j _
 by_cases e : j = i
 ·subst e; rw [h]; simp
 ·have : decide (j < i + 1) = decide (j < i) := by simp only [decide_eq_decide]; omega
  rw [this]
theorem wO {fr : Nat -> Bool} {n i : Nat} (h : fr i = true) (hi : i < n) : (nl (i6 fr n i)).set i ((cJ fr i).length : Int) = nl (i6 fr n (i + 1)) := by
 apply List.ext_getElem
 ·simp [nl, i6]
 ·intro k h1 h2
  rw [List.getElem_set]
  simp only [nl, i6, List.getElem_map, List.getElem_range]
  by_cases e : i = k
  ·subst e; rw [if_pos rfl, h]; simp
  ·rw [if_neg e]
   have : decide (k < i + 1) = decide (k < i) := by simp only [decide_eq_decide]; omega
   rw [this]
theorem xB {fr : Nat -> Bool} {n k : Nat} (hk : k < n) (h : fr k = true) : (i6 fr n n).getD k 0 = (cJ fr k).length := by
 rw [cH (by rw [nC]; exact hk)]
 simp [i6, hk, h]
def fF (row : List Nat) (inn : List Bool) (fr : Nat -> Bool) (k : Nat) : List Nat := ((row.take k).filter fun x => !inn.getD x false).map fun x => (cJ fr x).length
theorem tE {row : List Nat} {inn : List Bool} {fr : Nat -> Bool} {k : Nat} (hk : k < row.length) (h : inn.getD (row.getD k 0) false = true) : fF row inn fr (k + 1) = fF row inn fr k := by
 unfold fF
 rw [bf row k 0 hk, List.filter_append]
 simp only [List.filter_cons, h, Bool.not_true, Bool.false_eq_true, if_false, List.filter_nil, List.append_nil]
theorem uS {row : List Nat} {inn : List Bool} {fr : Nat -> Bool} {k : Nat} (hk : k < row.length) (h : inn.getD (row.getD k 0) false = false) : fF row inn fr (k + 1) = fF row inn fr k ++ [(cJ fr (row.getD k 0)).length] := by
 unfold fF
 rw [bf row k 0 hk, List.filter_append]
 simp only [List.filter_cons, h, Bool.not_false, if_true, List.filter_nil, List.map_append, List.map_cons, List.map_nil]
theorem u0 (row : List Nat) (inn : List Bool) (fr : Nat -> Bool) (k : Nat) : (fF row inn fr k).length <= row.length := by
 unfold fF
 rw [List.length_map]
 refine Nat.le_trans (List.length_filter_le _ _) ?_
 simp; omega
def lx (inn out S : List Bool) (n j : Nat) : List Bool := (List.range n).map fun k => if free inn out k && decide ((cJ (free inn out) k).length < j) then S.getD (cJ (free inn out) k).length false else inn.getD k false
theorem wA (inn out S : List Bool) (n j : Nat) : (lx inn out S n j).length = n := by simp [lx]
theorem vv {inn : List Bool} (out S : List Bool) {n : Nat} (h : inn.length = n) : lx inn out S n 0 = inn := by
 apply List.ext_getElem
 ·simp [lx, h]
 ·intro k h1 h2
  simp only [lx, List.getElem_map, List.getElem_range, Nat.not_lt_zero, decide_false, Bool.and_false, Bool.false_eq_true, if_false]
  exact cH h2
theorem wQ {inn out S : List Bool} {n j : Nat} (hj : j < (cJ (free inn out) n).length) : (lx inn out S n j).set ((cJ (free inn out) n).getD j 0) (S.getD j false) = lx inn out S n (j + 1) := by
 obtain ⟨h1, h2, h3⟩ := jJ (free inn out) hj
 generalize (cJ (free inn out) n).getD j 0 = u at *
 apply List.ext_getElem
 ·simp [lx]
 ·intro k hk1 hk2
  have hkn : k < n := by simpa [lx] using hk2
  rw [List.getElem_set]
  simp only [lx, List.getElem_map, List.getElem_range]
  by_cases e : u = k
  ·subst e; rw [if_pos rfl, h2, h3]; simp
  ·rw [if_neg e]
   cases hf : free inn out k with
   | false => rfl
   | true =>
    have hne : (cJ (free inn out) k).length ≠ j := fun he => e (by
     rw [<- nh (free inn out) h1 h2, <- nh (free inn out) hkn hf, h3, he])
    have : decide ((cJ (free inn out) k).length < j + 1) = decide ((cJ (free inn out) k).length < j) := by simp only [decide_eq_decide]; omega
    rw [this]
theorem vC (inn out S : List Bool) (n : Nat) : lx inn out S n (cJ (free inn out) n).length = rA inn out S n := by
 unfold lx rA
 apply List.map_congr_left
 intro k hk
 have hkn : k < n := by simpa using hk
 cases hf : free inn out k with
 | false => rfl
 | true => simp [lQ (free inn out) hkn hf]
set_option maxHeartbeats 16000000 in
theorem zk {W C : List Int} {nd us : List (List Nat)} {B : Int} (h : Pb W C nd B) (s : Se) (hm : qb s.num s.den) (hw : WOK (dg W C s.num s.den)) (inn out : List Bool) (hi : inn.length = nd.length) (ho : out.length = nd.length) (hn0 : 0 < nd.length) (hc : bK nd inn) (hup : zy nd out) :
  HT Try.prog 63 [.ptr (iW W C nd us B s) 0, Bl inn, Bl out] (fun r => ∃ A v, r = .tup [.osl 1 nd.length (HL.bools A), .int .i64 v] /\ xm (dg W C s.num s.den) nd inn out A v) := by
 have hsz := h.g.size
 have hlw := h.lw
 have hlc := h.lc
 obtain ⟨hnum, hden⟩ := hm
 have hnl : (nd.map nl).length = nd.length := by simp
 have hcl := hO inn (by omega) (by omega)
 simp only [Bl, hi] at hcl
 have hFn : (cJ (free inn out) nd.length).length <= nd.length := jM _ _
 refine HT.of rfl JJ (Nat.le_of_ble_eq_true rfl) ?_
 unfold KF
 simp only [iW, I, Bl, Gs, aF, Nat.reduceAdd, hi, ho, hlw, hlc, hnl]
 repeat (first | refine ae ?_ | refine ac ?_ | refine aD ?_ | refine ag ?_ | refine ab ?_ | refine ay ?_ | refine cW rfl (by rfl) cR ?_ | refine jg cR (by rfl) (by omega) bh bh ?_)
 refine bc [0, 1, 2, 8, 9, 29, 30] (fun i : Nat => i <= nd.length)
  (fun i => ⟨[(0, .ptr [.sl nd.length (HL.ints W), .sl nd.length (HL.ints C), .sl nd.length (aM (nd.map nl)), .int .i64 B, .int .i64 s.steps, .sl s.best.length (HL.bools s.best), .int .i64 s.num, .int .i64 s.den, .int .i64 s.value, .sl s.set.length (HL.bools s.set), .sl s.flow.length (HL.ints s.flow), .sl (us.map nl).length (aM (us.map nl))] 0), (1, .sl nd.length (HL.bools inn)), (2, .sl nd.length (HL.bools out)), (8, .ref 0 [] 1 0 nd.length), (9, .ref 1 [] 1 0 (cJ (free inn out) i).length), (29, .int .i64 nd.length), (30, .int .i64 i)], [(0, .osl 1 nd.length (HL.ints (nl (i6 (free inn out) nd.length i)))), (1, .osl 1 (cJ (free inn out) i).length (HL.ints (nl (cJ (free inn out) i))))], 2⟩) (fun i => nd.length - i) 0 (by omega) (by rw [<- ve]; rfl) ?_
 intro i hin
 have hFi : (cJ (free inn out) i).length <= i := jM _ _
 have hnN : (nl (i6 (free inn out) nd.length i)).length = nd.length := by rw [cL, nC]
 have hnN2 := nC (free inn out) nd.length i
 have hnF := cL (cJ (free inn out) i)
 by_cases hil : i < nd.length
 ·cases hf : free inn out i with
  | true =>
   have h1 : inn.getD i false = false := by unfold free at hf; simp only [Bool.and_eq_true, Bool.not_eq_true'] at hf; exact hf.1
   have h2 : out.getD i false = false := by unfold free at hf; simp only [Bool.and_eq_true, Bool.not_eq_true'] at hf; exact hf.2
   have hset := wO (fr := free inn out) (n := nd.length) hf hil
   have hsu : cJ (free inn out) (i + 1) = cJ (free inn out) i ++ [i] := by rw [dm, hf, if_pos rfl]
   have hsl : (cJ (free inn out) (i + 1)).length = (cJ (free inn out) i).length + 1 := by rw [hsu]; simp
   repeat (first | refine ae ?_ | refine aI ?_ | refine aL ?_ | refine bQ ?_ | refine bl (by rfl) aP (by (try simp (disch := omega) only [go_sem, h1, h2]); try rfl) ?_ | refine ac ?_ | refine au ?_ | refine aJ ?_ | refine bH (by rfl) (by rfl) (by (try simp (disch := omega) only [go_sem, Int.reduceAdd, Int.reduceSub, Int.reduceMul, h1, h2]); try rfl) ?_ | refine gw (by rfl) ?_ | refine am ?_ | refine ag ?_ | refine ab ?_ | refine ay ?_ | refine bV ?_ | refine aw ?_ | refine dR (by rfl) ?_ | refine xC (by rfl) cy bh jk (by rfl) (by decide) bO bh aP (by (try simp (disch := omega) only [go_sem, h1, h2]); try rfl) bh ?_ | refine cn ?_ | refine ec cR (by rfl) cy qa (by (try simp (disch := omega) only [go_sem, reduceIte, Nat.reduceEqDiff, Nat.reduceAdd, Nat.reduceMul, h1, h2]); try omega) bO (by (try simp (disch := omega) only [go_sem, reduceIte, Nat.reduceEqDiff, Nat.reduceAdd, Nat.reduceMul, h1, h2]); try rfl) cR (by omega) eZ aP (by (try simp (disch := omega) only [go_sem, reduceIte, Nat.reduceEqDiff, Nat.reduceAdd, Nat.reduceMul, h1, h2]); try rfl) bh ?_)
   exact bm [0, 1, 2, 8, 9, 29, 30] (i + 1) hil (by omega) (by rw [hsl, hsu, <- hset]; rfl)
  | false =>
   have hsk := vW (fr := free inn out) (n := nd.length) hf
   have hsu : cJ (free inn out) (i + 1) = cJ (free inn out) i := by rw [dm, hf]; simp
   cases h1 : inn.getD i false with
   | true =>
    repeat (first | refine ae ?_ | refine bE ?_ | refine aL ?_ | refine bl (by rfl) aP (by (try simp (disch := omega) only [go_sem, h1]); try rfl) ?_ | refine ac ?_ | refine au ?_ | refine aK ?_ | refine bH (by rfl) (by rfl) (by (try simp (disch := omega) only [go_sem, Int.reduceAdd, Int.reduceSub, Int.reduceMul, h1]); try rfl) ?_ | refine am ?_ | refine ak ?_ | refine ag ?_ | refine ab ?_ | refine ay ?_ | refine bV ?_ | refine aw ?_ | refine dh (by rfl) ?_)
    exact bm [0, 1, 2, 8, 9, 29, 30] (i + 1) hil (by omega) (by rw [hsu, hsk]; rfl)
   | false =>
    have h2 : out.getD i false = true := by
     unfold free at hf; rw [h1] at hf; simpa using hf
    repeat (first | refine ae ?_ | refine aI ?_ | refine aL ?_ | refine bl (by rfl) aP (by (try simp (disch := omega) only [go_sem, h1, h2]); try rfl) ?_ | refine ac ?_ | refine au ?_ | refine aJ ?_ | refine bH (by rfl) (by rfl) (by (try simp (disch := omega) only [go_sem, Int.reduceAdd, Int.reduceSub, Int.reduceMul, h1, h2]); try rfl) ?_ | refine am ?_ | refine ak ?_ | refine ag ?_ | refine ab ?_ | refine ay ?_ | refine bV ?_ | refine aw ?_ | refine dh (by rfl) ?_ | refine dR (by rfl) ?_)
    exact bm [0, 1, 2, 8, 9, 29, 30] (i + 1) hil (by omega) (by rw [hsu, hsk]; rfl)
 ·obtain rfl : i = nd.length := by omega
  repeat (first | refine ae ?_ | refine ac ?_ | refine au ?_ | refine gw (by rfl) ?_ | refine aZ (by rfl) ?_ | refine ak ?_ | refine ag ?_ | refine ab ?_ | refine ay ?_ | refine cW rfl (by rfl) cR ?_)
  obtain ⟨F, hF⟩ : ∃ F, cJ (free inn out) nd.length = F := ⟨_, rfl⟩
  obtain ⟨w, hwe⟩ : ∃ w, dg W C s.num s.den = w := ⟨_, rfl⟩
  obtain ⟨wl, hwl⟩ : ∃ wl, qd w (free inn out) nd.length = wl := ⟨_, rfl⟩
  obtain ⟨ns, hns⟩ : ∃ ns, wh nd inn (free inn out) nd.length = ns := ⟨_, rfl⟩
  have hwll : wl.length = F.length := by rw [<- hwl, kP, hF]
  have hnsl : ns.length = F.length := by rw [<- hns, fU, hF]
  rw [hwe]
  rw [hF] at hFi hnF hFn ⊢
  refine bc [0, 1, 8, 9, 11, 12, 55, 56, 57] (fun m : Nat => m <= F.length)
   (fun m => ⟨[(0, .ptr [.sl nd.length (HL.ints W), .sl nd.length (HL.ints C), .sl nd.length (aM (nd.map nl)), .int .i64 B, .int .i64 s.steps, .sl s.best.length (HL.bools s.best), .int .i64 s.num, .int .i64 s.den, .int .i64 s.value, .sl s.set.length (HL.bools s.set), .sl s.flow.length (HL.ints s.flow), .sl (us.map nl).length (aM (us.map nl))] 0), (1, .sl nd.length (HL.bools inn)), (8, .ref 0 [] 1 0 nd.length), (9, .ref 1 [] 1 0 F.length), (11, .ref 2 [] 1 0 m), (12, .ref 3 [] 1 0 m), (55, .ref 1 [] 1 0 F.length), (56, .int .i64 F.length), (57, .int .i64 m)],
    [(0, .osl 1 nd.length (HL.ints (nl (i6 (free inn out) nd.length nd.length)))), (1, .osl 1 F.length (HL.ints (nl F))), (2, .osl 1 m (HL.ints (wl.take m))), (3, .osl 1 m (cx (ns.take m)))], 4⟩) (fun m => F.length - m) 0 (by omega) rfl ?_
  intro m hmF
  have hwt : (wl.take m).length = m := by simp; omega
  have hnt : (ns.take m).length = m := by simp; omega
  have hrO := ib (ns.take m)
  by_cases hml : m < F.length
  ·obtain ⟨h1, h2, h3⟩ := jJ (free inn out) (n := nd.length) (by rw [hF]; exact hml)
   have hwg := uk w (free inn out) nd.length (m := m) (by rw [hF]; exact hml)
   have hng := kI nd inn (free inn out) nd.length (m := m) (by rw [hF]; exact hml)
   rw [hF] at h1 h2 h3 hwg hng
   rw [hwl] at hwg
   rw [hns] at hng
   obtain ⟨u, hu⟩ : ∃ u, F.getD m 0 = u := ⟨_, rfl⟩
   rw [hu] at h1 h2 h3 hwg hng
   obtain ⟨row, hrow⟩ : ∃ row, nd.getD u [] = row := ⟨_, rfl⟩
   have hrl := h.g.len u
   have hlt := h.g.lt u
   have hone := fun {k : Nat} => pC h.g hup h1 h2 (k := k)
   rw [hrow] at hrl hlt hone hng
   have hnr := cL row
   repeat (first | refine ae ?_ | refine aL ?_ | refine bQ ?_ | refine bl (by rfl) aP (by (try simp (disch := omega) only [go_sem, hu, cY, hrow]); try rfl) ?_ | refine dw (by rfl) bO (by (try simp (disch := omega) only [go_sem, reduceIte, Nat.reduceEqDiff, Nat.reduceAdd, Nat.reduceMul, hu, cY, hrow]); try rfl) aP (by (try simp (disch := omega) only [go_sem, hu, cY, hrow]); try rfl) cy ?_ | refine ac ?_ | refine au ?_ | refine aD ?_ | refine am ?_ | refine ag ?_ | refine ab ?_ | refine ay ?_ | refine aw ?_ | refine cW rfl (by rfl) cR ?_ | refine kf (by rfl) (by rfl) ?_ | refine ba cy rfl ?_)
   refine bc [0, 1, 8, 9, 11, 12, 14, 15, 55, 56, 57, 68, 69, 70] (fun k : Nat => k <= row.length)
    (fun k => ⟨[(0, .ptr [.sl nd.length (HL.ints W), .sl nd.length (HL.ints C), .sl nd.length (aM (nd.map nl)), .int .i64 B, .int .i64 s.steps, .sl s.best.length (HL.bools s.best), .int .i64 s.num, .int .i64 s.den, .int .i64 s.value, .sl s.set.length (HL.bools s.set), .sl s.flow.length (HL.ints s.flow), .sl (us.map nl).length (aM (us.map nl))] 0), (1, .sl nd.length (HL.bools inn)), (8, .ref 0 [] 1 0 nd.length), (9, .ref 1 [] 1 0 F.length), (11, .ref 2 [] 1 0 m), (12, .ref 3 [] 1 0 m), (14, .int .i64 u), (15, .ref 4 [] 1 0 (fF row inn (free inn out) k).length), (55, .ref 1 [] 1 0 F.length), (56, .int .i64 F.length), (57, .int .i64 m), (68, .sl row.length (HL.ints (nl row))), (69, .int .i64 row.length), (70, .int .i64 k)],
     [(0, .osl 1 nd.length (HL.ints (nl (i6 (free inn out) nd.length nd.length)))), (1, .osl 1 F.length (HL.ints (nl F))), (2, .osl 1 m (HL.ints (wl.take m))), (3, .osl 1 m (cx (ns.take m))), (4, .osl 1 (fF row inn (free inn out) k).length (HL.ints (nl (fF row inn (free inn out) k))))], 5⟩) (fun k => row.length - k) 0 (by omega) rfl ?_
   intro k hk
   have hfl := u0 row inn (free inn out) k
   have hfn := cL (fF row inn (free inn out) k)
   by_cases hkr : k < row.length
   ·obtain ⟨x, hx⟩ : ∃ x, row.getD k 0 = x := ⟨_, rfl⟩
    have hxr : x ∈ row := by rw [<- hx]; exact dl row k 0 hkr
    have hxn := hlt x hxr
    cases hin2 : inn.getD x false with
    | true =>
     have hsk := tE (fr := free inn out) hkr (by rw [hx]; exact hin2)
     repeat (first | refine ae ?_ | refine aL ?_ | refine bl (by rfl) aP (by (try simp (disch := omega) only [go_sem, hx, hin2]); try rfl) ?_ | refine ac ?_ | refine au ?_ | refine bH (by rfl) (by rfl) (by (try simp (disch := omega) only [go_sem, Int.reduceAdd, Int.reduceSub, Int.reduceMul, hx, hin2]); try rfl) ?_ | refine am ?_ | refine ak ?_ | refine ag ?_ | refine ab ?_ | refine ay ?_ | refine bV ?_ | refine aw ?_ | refine dh (by rfl) ?_)
     exact bm [0, 1, 8, 9, 11, 12, 14, 15, 55, 56, 57, 68, 69, 70] (k + 1) hkr (by omega) (by rw [hsk]; rfl)
    | false =>
     have had := uS (fr := free inn out) hkr (by rw [hx]; exact hin2)
     have hnum2 := xB (n := nd.length) hxn (hone hxr hin2).2
     rw [hx] at had
     have hal : (fF row inn (free inn out) (k + 1)).length = (fF row inn (free inn out) k).length + 1 := by rw [had]; simp
     repeat (first | refine ae ?_ | refine aL ?_ | refine bQ ?_ | refine bl (by rfl) aP (by (try simp (disch := omega) only [go_sem, hx, hin2, hnum2]); try rfl) ?_ | refine dw (by rfl) bO (by (try simp (disch := omega) only [go_sem, reduceIte, Nat.reduceEqDiff, Nat.reduceAdd, Nat.reduceMul, hx, hin2, hnum2]); try rfl) aP (by (try simp (disch := omega) only [go_sem, hx, hin2, hnum2]); try rfl) cy ?_ | refine ac ?_ | refine au ?_ | refine bH (by rfl) (by rfl) (by (try simp (disch := omega) only [go_sem, Int.reduceAdd, Int.reduceSub, Int.reduceMul, hx, hin2, hnum2]); try rfl) ?_ | refine am ?_ | refine ag ?_ | refine ab ?_ | refine ay ?_ | refine bV ?_ | refine aw ?_ | refine dR (by rfl) ?_ | refine cn ?_ | refine ec cR (by rfl) cy qa (by (try simp (disch := omega) only [go_sem, reduceIte, Nat.reduceEqDiff, Nat.reduceAdd, Nat.reduceMul, hx, hin2, hnum2]); try omega) bO (by (try simp (disch := omega) only [go_sem, reduceIte, Nat.reduceEqDiff, Nat.reduceAdd, Nat.reduceMul, hx, hin2, hnum2]); try rfl) cR (by omega) eZ aP (by (try simp (disch := omega) only [go_sem, reduceIte, Nat.reduceEqDiff, Nat.reduceAdd, Nat.reduceMul, hx, hin2, hnum2]); try rfl) bh ?_)
     exact bm [0, 1, 8, 9, 11, 12, 14, 15, 55, 56, 57, 68, 69, 70] (k + 1) hkr (by omega) (by rw [hal, had]; rfl)
   ·obtain rfl : k = row.length := by omega
    have hfr : fF row inn (free inn out) row.length = ns.getD m [] := by rw [hng, fF, List.take_length]
    have hts := bf ns m [] (by omega)
    have htw := bf wl m 0 (by omega)
    rw [<- hfr] at hts
    rw [hwg] at htw
    have hwu := kV W C s.num s.den (i := u) (by omega)
    rw [hwe] at hwu
    rw [hwu] at htw
    have hwr := h.w u
    have hcr := h.c u
    have b1 := pT (a := s.den) (b := W.getD u 0) (by omega) (by omega) hwr.1 hwr.2
    have b2 := pT (a := s.num) (b := C.getD u 0) (by omega) (by omega) hcr.1 hcr.2
    obtain ⟨x, hx⟩ : ∃ x, W.getD u 0 = x := ⟨_, rfl⟩
    obtain ⟨y, hy⟩ : ∃ x, C.getD u 0 = x := ⟨_, rfl⟩
    rw [hx] at hwr b1 htw
    rw [hy] at hcr b2 htw
    have hro := mT (ns.take m) (fF row inn (free inn out) row.length) rfl
    repeat (first | refine ac ?_ | refine au ?_ | refine aZ (by rfl) ?_ | refine ak ?_ | refine ag ?_ | refine ab ?_)
    refine bA aS aS (fun _ _ _ => False) ?_
    repeat (first | refine ae ?_ | refine aL ?_ | refine bl (by rfl) aP (by (try simp (disch := omega) only [go_sem, hx, hy, hro]); try rfl) ?_ | refine ac ?_ | refine bH (by rfl) (by rfl) (by (try simp (disch := omega) only [go_sem, Int.reduceAdd, Int.reduceSub, Int.reduceMul, hx, hy, hro]); try rfl) ?_ | refine ab ?_ | refine bV ?_ | refine dQ (by rfl) (by rfl) (by (try simp (disch := omega) only [go_sem, Int.reduceAdd, Int.reduceSub, Int.reduceMul, hx, hy, hro]); try rfl) ?_ | refine jz (by rfl) (by rfl) (by (try simp (disch := omega) only [go_sem, Int.reduceAdd, Int.reduceSub, Int.reduceMul, hx, hy, hro]); try rfl) ?_ | refine kf (by rfl) (by rfl) ?_ | refine cn ?_ | refine ec cR (by rfl) cy qa (by (try simp (disch := omega) only [go_sem, reduceIte, Nat.reduceEqDiff, Nat.reduceAdd, Nat.reduceMul, hx, hy, hro]); try omega) bO (by (try simp (disch := omega) only [go_sem, reduceIte, Nat.reduceEqDiff, Nat.reduceAdd, Nat.reduceMul, hx, hy, hro]); try rfl) cR (by omega) eZ aP (by (try simp (disch := omega) only [go_sem, reduceIte, Nat.reduceEqDiff, Nat.reduceAdd, Nat.reduceMul, hx, hy, hro]); try rfl) bh ?_ | refine tG cR aE bh rP (by simp) (by rfl) (by rfl) (by rfl) ?_ | refine uv cR (by rfl) cy qa (by simp [iK, ju, kR]) bO bh cR (by omega) eZ aP (by (try simp (disch := omega) only [go_sem, reduceIte, Nat.reduceEqDiff, Nat.reduceAdd, Nat.reduceMul, hx, hy, hro]); try rfl) bh (by rfl) ?_ | refine ba cy rfl ?_)
    exact bm [0, 1, 8, 9, 11, 12, 55, 56, 57] (m + 1) hml (by omega) (by rw [htw, hts]; rfl)
  ·obtain rfl : m = F.length := by omega
   rw [List.take_of_length_le (l := wl) (by omega), List.take_of_length_le (l := ns) (by omega)] at *
   have hg2 := BA (inn := inn) h.g hup
   rw [hns] at hg2
   have hwo := xx (hwe ▸ hw) (free inn out) nd.length
   rw [hwl] at hwo
   have hmx := ul wl ns _ hg2 hwo (by omega)
   simp only [I, Gs, List.length_map, hwll, hnsl] at hmx
   repeat (first | refine ae ?_ | refine ac ?_ | refine au ?_ | refine aZ (by rfl) ?_ | refine ak ?_ | refine ag ?_ | refine ab ?_)
   refine aX aE (by simp (disch := omega) only [bF, jF, n6, HV.thaw, bu, aG, aH, if_true, if_false, reduceIte, Nat.reduceEqDiff, aW, HV.strip, da, ci, cV, Nat.mul_one, List.cons_append, List.nil_append, List.append_nil, I, Bl, Es, List.getD_cons_zero, List.getD_cons_succ, HL.ints_strip, HL.bools_strip, cS, cO]; try rfl) (hmx) ?_
   rintro _ ⟨fl, set, value, rfl, hM, -, -⟩
   generalize set.take ns.length = S at *
   have hSl := hM.len
   rw [hnsl] at hSl
   rw [hnsl]
   refine ⟨ce, _, _, _, _, _, bT, (by decide), aN, ?_⟩
   repeat (first | refine ae ?_ | refine ac ?_ | refine br ?_ | refine ag ?_ | refine ab ?_)
   refine aX aE cI (hcl) ?_
   rintro _ rfl
   refine ⟨ce, _, _, _, _, _, bT, (by decide), aN, ?_⟩
   repeat (first | refine ae ?_ | refine ac ?_ | refine gw (by rfl) ?_ | refine ag ?_ | refine ab ?_ | refine ay ?_)
   have hall := yp h.g (hwe ▸ hw) hup hc hi (S := S) (by rw [hwl, hns]; exact hM)
   rw [hwl, hns, hnsl] at hall
   refine bc [9, 19, 22, 134, 135, 136] (fun j : Nat => j <= F.length)
    (fun j => ⟨[(9, .ref 0 [] 1 0 F.length), (19, .int .i64 (wS wl S F.length)), (22, .ref 1 [] 1 0 nd.length), (134, .ref 2 [] 1 0 F.length), (135, .int .i64 F.length), (136, .int .i64 j)],
     [(0, .osl 1 F.length (HL.ints (nl F))), (1, .osl 1 nd.length (HL.bools (lx inn out S nd.length j))), (2, .osl 1 F.length (HL.bools S))], 3⟩) (fun j => F.length - j) 0 (by omega) (by rw [vv out S hi]; rfl) ?_
   intro j hj
   have hPl := wA inn out S nd.length j
   by_cases hjF : j < F.length
   ·obtain ⟨h1, h2, h3⟩ := jJ (free inn out) (n := nd.length) (by rw [hF]; exact hjF)
    have hset := wQ (inn := inn) (out := out) (S := S) (n := nd.length) (j := j) (by rw [hF]; exact hjF)
    rw [hF] at h1 h2 h3 hset
    obtain ⟨u, hu⟩ : ∃ u, F.getD j 0 = u := ⟨_, rfl⟩
    obtain ⟨b, hb⟩ : ∃ b, S.getD j false = b := ⟨_, rfl⟩
    rw [hu] at h1 h2 h3 hset
    rw [hb] at hset
    repeat (first | refine ae ?_ | refine bQ ?_ | refine dw (by rfl) bO (by (try simp (disch := omega) only [go_sem, reduceIte, Nat.reduceEqDiff, Nat.reduceAdd, Nat.reduceMul, hu, hb]); try rfl) aP (by (try simp (disch := omega) only [go_sem, hu, hb]); try rfl) cy ?_ | refine ac ?_ | refine au ?_ | refine bH (by rfl) (by rfl) (by (try simp (disch := omega) only [go_sem, Int.reduceAdd, Int.reduceSub, Int.reduceMul, hu, hb]); try rfl) ?_ | refine am ?_ | refine ag ?_ | refine ab ?_ | refine ay ?_ | refine bV ?_ | refine aw ?_ | refine xC (by rfl) cy bh jk (by rfl) (by decide) bO bh aP (by (try simp (disch := omega) only [go_sem, hu, hb]); try rfl) bh ?_)
    exact bm [9, 19, 22, 134, 135, 136] (j + 1) hjF (by omega) (by rw [<- hset]; rfl)
   ·obtain rfl : j = F.length := by omega
    have hdone := vC inn out S nd.length
    rw [hF] at hdone
    rw [hdone]
    repeat (first | refine ae ?_ | refine ac ?_ | refine au ?_ | refine aZ (by rfl) ?_ | refine ak ?_ | refine ag ?_ | refine ab ?_)
    refine ar ?_
    exact ⟨_, _, rfl, hall⟩
end Go.Proofs.Yteamkjblpglliaa
