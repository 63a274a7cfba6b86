import Derived.Test.YteamkjblpglliaaAbB
import Derived.Test.YteamkjblpglliaaHlMv
import Derived.Test.YteamkjblpglliaaHlDn
import Derived.Test.YteamkjblpglliaaHlRo
import Derived.Test.YteamkjblpglliaaFlChk
set_option linter.unusedSimpArgs false
set_option linter.unusedVariables false
namespace Go.Proofs.Yteamkjblpglliaa
open Go.RowKit Go.SL Go.HL
structure Pre (W C : List Int) (nd : List (List Nat)) (n i : Nat) : Prop where
 lw : W.length = i
 lc : C.length = i
 ln : nd.length = i
 w : ∀ k, 0 <= W.getD k 0 /\ W.getD k 0 <= 14
 c : ∀ k, 0 <= C.getD k 0 /\ C.getD k 0 <= 11
 lt : ∀ u j, j ∈ nd.getD u [] -> j < n
 sorted : ∀ u, (nd.getD u []).Pairwise (· < ·)
theorem Pre.nil (n : Nat) : Pre [] [] [] n 0 := ⟨rfl, rfl, rfl, by simp, by simp, by simp, by simp⟩
theorem dZ {α : Type} (l : List α) (x d : α) (k : Nat) : (l ++ [x]).getD k d = l.getD k d \/ (l ++ [x]).getD k d = x \/ (l ++ [x]).getD k d = d := by
 by_cases h : k < l.length
 ·left; rw [List.getD_eq_getElem?_getD, List.getElem?_append_left h, List.getD_eq_getElem?_getD]
 ·by_cases h2 : k = l.length
  ·subst h2; right; left; simp
  ·right; right; rw [List.getD_eq_getElem?_getD, List.getElem?_eq_none (by simp; omega)]; rfl
theorem Pre.snoc {W C : List Int} {nd : List (List Nat)} {n i : Nat} (h : Pre W C nd n i) {x y : Nat} {row : List Nat} (hx : x < 14) (hy : y < 11) (h1 : ∀ j ∈ row, j < n) (h2 : row.Pairwise (· < ·)) : Pre (W ++ [(x : Int)]) (C ++ [(y : Int)]) (nd ++ [row]) n (i + 1) := by
 refine ⟨by simp [h.lw], by simp [h.lc], by simp [h.ln], fun k => ?_, fun k => ?_, fun u j hj => ?_, fun u => ?_⟩
 ·rcases dZ W (x : Int) 0 k with e | e | e <;> rw [e]
  ·exact h.w k
  ·omega
  ·omega
 ·rcases dZ C (y : Int) 0 k with e | e | e <;> rw [e]
  ·exact h.c k
  ·omega
  ·omega
 ·rcases dZ nd row [] u with e | e | e <;> rw [e] at hj
  ·exact h.lt u j hj
  ·exact h1 j hj
  ·cases hj
 ·rcases dZ nd row [] u with e | e | e <;> rw [e]
  ·exact h.sorted u
  ·exact h2
  ·exact .nil
theorem Pre.pb {W C : List Int} {nd : List (List Nat)} {n : Nat} (h : Pre W C nd n n) (hn : n <= 256) {B : Nat} (hB : B < 40) : Pb W C nd (B : Int) :=
 ⟨by rw [h.lw, h.ln], by rw [h.lc, h.ln], fun i => ⟨(h.w i).1, by have := (h.w i).2; omega⟩, fun i => ⟨(h.c i).1, by have := (h.c i).2; omega⟩, by omega, ⟨by rw [h.ln]; exact hn, by simp, fun u j hj => by rw [h.ln]; exact h.lt u j hj, h.sorted⟩⟩
def Io (W C : List Int) (nd : List (List Nat)) (B : Int) (n : Nat) : List HV := [.osl 1 n (HL.ints W), .osl 1 n (HL.ints C), .osl 1 n (cx nd), .int .i64 B]
structure RowU (n k : Nat) (row : List Nat) : Prop where
 lt : ∀ j ∈ row, j < k
 sorted : row.Pairwise (· < ·)
 len : row.length <= k
theorem RowU.snoc {n k : Nat} {row : List Nat} (h : RowU n k row) : RowU n (k + 1) (row ++ [k]) :=
 ⟨fun j hj => by
  rcases List.mem_append.1 hj with hj | hj
  ·have := h.lt j hj; omega
  ·simp at hj; omega, List.pairwise_append.2 ⟨h.sorted, by simp, fun a ha b hb => by simp at hb; subst hb; exact h.lt a ha⟩, by simp; exact h.len⟩
theorem RowU.up {n k : Nat} {row : List Nat} (h : RowU n k row) : RowU n (k + 1) row := ⟨fun j hj => by have := h.lt j hj; omega, h.sorted, by have := h.len; omega⟩
set_option maxHeartbeats 4000000 in
theorem rF (l : List Int) (hl : l.length <= 9223372036854775807) (hr : ∀ k, k < l.length -> -9223372036854775808 <= l.getD k 0 /\ l.getD k 0 <= 9223372036854775807) (K0 : HV -> Prop)
  (hend : ∀ (W C : List Int) (nd : List (List Nat)) (n B : Nat), Pre W C nd n n -> n < 10 -> B < 40 -> hx Try.prog [.c zV] (finish [2] (KC [.c 2 true 4] K0)) ⟨[(2, .pref 0 [] 0), (4, .pref 1 [] 0)], [(0, .optr [.nils, .nils, .nils, .int .i64 0]), (1, .optr (Io W C nd B n))], 2⟩) : HT Try.prog 9 [I l] K0 := by
 refine HT.ofC rfl Lg [2] rfl (Nat.le_of_ble_eq_true rfl) ?_
 unfold c9
 simp only [I, aF, Nat.reduceAdd]
 repeat (first | refine ae ?_ | refine ac ?_ | refine ag ?_ | refine ab ?_ | refine dI cR ?_)
 refine aX aE cI (m9 l 0 10 (by omega) (by omega) (by omega) hl hr) ?_
 rintro _ ⟨n, rfl, hn⟩
 refine ⟨ce, _, _, _, _, _, bT, (by decide), aN, ?_⟩
 repeat (first | refine ae ?_ | refine ac ?_ | refine ag ?_ | refine ab ?_)
 refine aX aE cI (m9 l 1 40 (by omega) (by omega) (by omega) hl hr) ?_
 rintro _ ⟨B, rfl, hB⟩
 refine ⟨ce, _, _, _, _, _, bT, (by decide), aN, ?_⟩
 repeat (first | refine ae ?_ | refine ac ?_ | refine ag ?_ | refine ab ?_ | refine ay ?_ | refine bv ?_ | refine dI cR ?_ | refine kO k9 k8 (by simp [eL]) ?_)
 refine vz 112 [1, 1, 1] [0, 2, 3, 4, 5] (⟨[(0, .sl l.length (HL.ints l)), (2, .pref 0 [] 0), (3, .int .i64 n), (4, .pref 1 [] 0), (5, .int .i64 0)], [(0, .optr [.nils, .nils, .nils, .int .i64 0]), (1, .optr [.osl 1 0 [], .osl 1 0 [], .osl 1 0 [], .int .i64 B])], 2⟩ : St) rfl rfl ?_
 refine bc [0, 2, 3, 4, 5] (fun s : Nat × List Int × List Int × List (List Nat) => s.1 <= n /\ Pre s.2.1 s.2.2.1 s.2.2.2 n s.1)
  (fun s => ⟨[(0, .sl l.length (HL.ints l)), (2, .pref 0 [] 0), (3, .int .i64 n), (4, .pref 1 [] 0), (5, .int .i64 s.1)], [(0, .optr [.nils, .nils, .nils, .int .i64 0]), (1, .optr (Io s.2.1 s.2.2.1 s.2.2.2 B s.1))], 2⟩) (fun s => n - s.1) (0, [], [], []) ⟨by omega, Pre.nil n⟩ rfl ?_
 rintro ⟨i, W, C, nd⟩ ⟨hi, hP⟩
 simp only at hi hP ⊢
 unfold Io
 have hWl := hP.lw
 have hCl := hP.lc
 have hnl := hP.ln
 by_cases hin : i < n
 ·have hat1 := m9 l (2 + 2 * i) 14 (by omega) (by omega) (by omega) hl hr
  have hat2 := m9 l (3 + 2 * i) 11 (by omega) (by omega) (by omega) hl hr
  rw [show ((2 + 2 * i : Nat) : Int) = 2 + 2 * (i : Int) by omega] at hat1
  rw [show ((3 + 2 * i : Nat) : Int) = 3 + 2 * (i : Int) by omega] at hat2
  repeat (first | refine ae ?_ | refine ac ?_ | refine au ?_ | refine am ?_ | refine ag ?_ | refine ab ?_ | refine ay ?_ | refine aw ?_)
  refine rC [] [] aS aS (fun _ _ r => ∃ y : Nat, r = .int .i64 y /\ y < 14) (by simp) (by simp) ?_ (by rintro _ _ _ ⟨y, rfl, -⟩ fr; exact fX)
  repeat (first | refine ae ?_ | refine aB ?_ | refine bn ?_ | refine jz (by rfl) (by rfl) kK ?_ | refine ax ?_)
  refine bk aE cI hat1 ⟨.int .i64 (0 : Nat), ⟨0, rfl, by omega⟩, rfl⟩ ?_
  rintro _ ⟨x, rfl, hx14⟩ -
  refine ⟨ce, _, _, _, _, _, bT, (by decide), aN, ?_⟩
  repeat (first | refine ac ?_ | refine ag ?_ | refine ax ?_ | refine bv ?_ | refine cn ?_ | refine ec cR (by rfl) cy qa mE bO bh cR (by omega) eZ aP nL bh ?_)
  refine rC [] [] aS aS (fun _ _ r => ∃ y : Nat, r = .int .i64 y /\ y < 11) (by simp) (by simp) ?_ (by rintro _ _ _ ⟨y, rfl, -⟩ fr; exact fX)
  repeat (first | refine ae ?_ | refine aB ?_ | refine bn ?_ | refine jz (by rfl) (by rfl) kK ?_ | refine ax ?_)
  refine bk aE cI hat2 ⟨.int .i64 (0 : Nat), ⟨0, rfl, by omega⟩, rfl⟩ ?_
  rintro _ ⟨y, rfl, hy11⟩ -
  refine ⟨ce, _, _, _, _, _, bT, (by decide), aN, ?_⟩
  repeat (first | refine ae ?_ | refine ac ?_ | refine ag ?_ | refine ab ?_ | refine ay ?_ | refine cW rfl (by rfl) cR ?_ | refine ax ?_ | refine bv ?_ | refine cn ?_ | refine ec cR (by rfl) cy qa mE bO bh cR (by omega) eZ aP nL bh ?_)
  refine bc [0, 2, 3, 4, 5, 6, 7] (fun s : Nat × List Nat => s.1 <= n /\ RowU n s.1 s.2)
   (fun s => ⟨[(0, .sl l.length (HL.ints l)), (2, .pref 0 [] 0), (3, .int .i64 n), (4, .pref 1 [] 0), (5, .int .i64 i), (6, .ref 2 [] 1 0 s.2.length), (7, .int .i64 s.1)], [(0, .optr [.nils, .nils, .nils, .int .i64 0]), (1, .optr [.osl 1 (i + 1) (HL.ints (W ++ [(x : Int)])), .osl 1 (i + 1) (HL.ints (C ++ [(y : Int)])), .osl 1 i (cx nd), .int .i64 B]), (2, .osl 1 s.2.length (HL.ints (nl s.2)))], 3⟩) (fun s => n - s.1) (0, []) ⟨by omega, ⟨by simp, .nil, by simp⟩⟩ rfl ?_
  rintro ⟨k, row⟩ ⟨hk, hR⟩
  simp only at hk hR ⊢
  have hRl := hR.len
  by_cases hkn : k < n
  ·have hat1 := m9 l (22 + i + 3 * k) 5 (by omega) (by omega) (by omega) hl hr
   have hat2 := m9 l (23 + i + k) 4 (by omega) (by omega) (by omega) hl hr
   rw [show ((22 + i + 3 * k : Nat) : Int) = 22 + (i : Int) + 3 * (k : Int) by omega] at hat1
   rw [show ((23 + i + k : Nat) : Int) = 23 + (i : Int) + (k : Int) by omega] at hat2
   have no : RowU n (k + 1) row := hR.up
   have yes : RowU n (k + 1) (row ++ [k]) := hR.snoc
   have hsn : (row ++ [k]).length = row.length + 1 := by simp
   have hnr := cL row
   repeat (first | refine ae ?_ | refine ac ?_ | refine au ?_ | refine bn ?_ | refine am ?_ | refine ag ?_ | refine ab ?_ | refine ay ?_ | refine aw ?_ | refine jz (by rfl) (by rfl) kK ?_)
   refine aX aE cI (hat1) ?_
   rintro _ ⟨y1, rfl, hy1⟩
   refine ⟨ce, _, _, _, _, _, bT, (by decide), aN, ?_⟩
   by_cases h1 : y1 = 1
   ·subst h1
    by_cases h2 : k > i
    ·repeat (first | refine ae ?_ | refine aI ?_ | refine bE ?_ | refine ac ?_ | refine eh (by rfl) (by rfl) eg ?_ | refine aJ ?_ | refine bn ?_ | refine am ?_ | refine ab ?_ | refine bV ?_ | refine bq ?_ | refine cn ?_ | refine ec cR (by rfl) cy qa mE bO bh cR (by omega) eZ aP nL bh ?_)
     exact bm [0, 2, 3, 4, 5, 6, 7] (k + 1, row ++ [k]) ⟨hkn, yes⟩ cK (by rw [hsn]; rfl)
    ·repeat (first | refine ae ?_ | refine aI ?_ | refine eh (by rfl) (by rfl) eg ?_ | refine bn ?_ | refine bq ?_)
     refine aX aE cI (hat2) ?_
     rintro _ ⟨y2, rfl, hy2⟩
     refine ⟨ce, _, _, _, _, _, bT, (by decide), aN, ?_⟩
     by_cases h3 : y2 = 2
     ·subst h3
      repeat (first | refine ae ?_ | refine aI ?_ | refine ac ?_ | refine eh (by rfl) (by rfl) eg ?_ | refine aJ ?_ | refine aK ?_ | refine bn ?_ | refine am ?_ | refine ab ?_ | refine bV ?_ | refine cn ?_ | refine ec cR (by rfl) cy qa mE bO bh cR (by omega) eZ aP nL bh ?_)
      exact bm [0, 2, 3, 4, 5, 6, 7] (k + 1, row ++ [k]) ⟨hkn, yes⟩ cK (by rw [hsn]; rfl)
     ·repeat (first | refine ae ?_ | refine aI ?_ | refine ac ?_ | refine eh (by rfl) (by rfl) eg ?_ | refine aJ ?_ | refine aK ?_ | refine bn ?_ | refine ak ?_ | refine ab ?_ | refine bV ?_ | refine aw ?_)
      exact bm [0, 2, 3, 4, 5, 6, 7] (k + 1, row) ⟨hkn, no⟩ cK rfl
   ·repeat (first | refine ae ?_ | refine bE ?_ | refine ac ?_ | refine eh (by rfl) (by rfl) eg ?_ | refine aK ?_ | refine bn ?_ | refine ak ?_ | refine ab ?_ | refine bV ?_ | refine aw ?_ | refine lX (by rfl) (by rfl) ?_)
    exact bm [0, 2, 3, 4, 5, 6, 7] (k + 1, row) ⟨hkn, no⟩ cK rfl
  ·obtain rfl : k = n := by omega
   have hPs := hP.snoc hx14 hy11 (row := row) hR.lt hR.sorted
   have hro := mT nd row rfl
   have hrol := ib nd
   repeat (first | refine ae ?_ | refine dw (by rfl) bO (by (try simp (disch := omega) only [go_sem, reduceIte, Nat.reduceEqDiff, Nat.reduceAdd, Nat.reduceMul, hro]); try rfl) aP (by (try simp (disch := omega) only [go_sem, hro]); try rfl) cy ?_ | refine ac ?_ | refine au ?_ | refine bH (by rfl) (by rfl) (by (try simp (disch := omega) only [go_sem, Int.reduceAdd, Int.reduceSub, Int.reduceMul, hro]); try rfl) ?_ | refine aZ (by rfl) ?_ | refine ak ?_ | refine ag ?_ | refine ab ?_ | refine bV ?_ | refine ax ?_ | refine zY (by rfl) cy bh rP zU (by rfl) DC (by rfl) IU (by (try simp (disch := omega) only [go_sem, reduceIte, Nat.reduceEqDiff, Nat.reduceAdd, Nat.reduceMul, hro]); try rfl) aP (by (try simp (disch := omega) only [go_sem, hro]); try rfl) bh Gt ?_ | refine tG cR aE bh rP (by simp) (by rfl) (by rfl) (by rfl) ?_ | refine uv cR (by rfl) cy qa (by simp [iK, ju, kR]) bO bh cR (by omega) eZ aP (by (try simp (disch := omega) only [go_sem, reduceIte, Nat.reduceEqDiff, Nat.reduceAdd, Nat.reduceMul, hro]); try rfl) bh (by rfl) ?_)
   exact bm [0, 2, 3, 4, 5] (i + 1, W ++ [(x : Int)], C ++ [(y : Int)], nd ++ [row]) ⟨hin, hPs⟩ cK rfl
 ·obtain rfl : i = n := by omega
  refine ag ?_
  refine ag ?_
  refine ab ?_
  repeat (first | refine ae ?_ | refine ac ?_ | refine au ?_)
  refine ak ?_
  refine aZ (by rfl) ?_
  refine dA [2, 4] (⟨[(2, .pref 0 [] 0), (4, .pref 1 [] 0)], [(0, .optr [.nils, .nils, .nils, .int .i64 0]), (1, .optr (Io W C nd B i))], 2⟩ : St) rfl ?_
  exact hend W C nd i B hP hn hB
end Go.Proofs.Yteamkjblpglliaa
