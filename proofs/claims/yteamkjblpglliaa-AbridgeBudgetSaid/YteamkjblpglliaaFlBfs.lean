import Derived.Test.YteamkjblpglliaaFlAdd
import Derived.Test.YteamkjblpglliaaList
section
set_option linter.unusedSimpArgs false
set_option linter.unusedVariables false
namespace Go.Proofs.Yteamkjblpglliaa
open Go.RowKit Go.SL
def ew (b go n co : Nat) (at_ : Option Addr) (nt ct : Nat) (al : Option Addr) (cl : Nat) (av : Option Addr) (cv : Nat) (aa : Option Addr) (ca : Nat) (s t : Int) (us : List Value)
  (to : List Nat) (outs : List (List Nat)) (left level : List Int) (ats : List Nat) (R : List d8) : List d8 :=
 blk b [.slice at_ nt ct, .slice al nt cl, .slice (some ⟨go, 0, none⟩) n co, .slice av n cv, .slice aa n ca, .int .i64 s, .int .i64 t] 110 ::
 row 3 1 0 (.slice at_ nt ct) nt (cZ to) :: row 3 1 0 (.slice al nt cl) nt (ints left) ::
 row 22 1 0 (.slice (some ⟨go, 0, none⟩) n co) n us :: mJ 3 1 us (outs.map cZ) ::
 row 3 1 0 (.slice av n cv) n (ints level) :: row 3 1 0 (.slice aa n ca) n (cZ ats) :: R
def twin (k : Nat) : Nat := if k % 2 = 0 then k + 1 else k - 1
theorem yq (k : Nat) : k ^^^ 1 = twin k := by
 have h1 : (k ^^^ 1) / 2 = k / 2 := by rw [Nat.xor_div_two]; simp
 have h2 : (k ^^^ 1) % 2 = 1 <-> ¬ (k % 2 = 1) := by rw [Nat.xor_mod_two_eq_one]; simp
 unfold twin
 split <;> omega
theorem oZ (k : Nat) (hk : k < 1099511627776) : bits BinOp.xor IntKind.i64 (k : Int) 1 = ((twin k : Nat) : Int) := by
 have h1 : (BitVec.ofInt 64 (k : Int)).toNat = k := by
  rw [BitVec.ofInt_natCast, BitVec.toNat_ofNat]; exact Nat.mod_eq_of_lt (by omega)
 show IntKind.i64.wrap ((BitVec.ofInt 64 (k : Int) ^^^ BitVec.ofInt 64 1).toNat : Int) = _
 rw [BitVec.toNat_xor, h1, show (BitVec.ofInt 64 1).toNat = 1 from rfl, yq, IntKind.wrap_i64]
 unfold twin
 split <;> omega
theorem o6 (k : Nat) : twin k ≠ k := by unfold twin; split <;> omega
theorem fg (k : Nat) : twin (twin k) = k := by unfold twin; split <;> split <;> omega
def moved (left : List Int) (k : Nat) (x : Int) : List Int := (left.set k (left.getD k 0 - x)).set (twin k) (left.getD (twin k) 0 + x)
set_option maxHeartbeats 4000000 in
theorem yd (B : Nat) (w0 w : World) (b go n co : Nat) (at_ : Option Addr) (nt ct : Nat) (al : Option Addr) (cl : Nat) (av : Option Addr) (cv : Nat) (aa : Option Addr) (ca : Nat) (s t : Int) (us : List Value)
  (to : List Nat) (outs : List (List Nat)) (left level : List Int) (ats : List Nat) (R : List d8) (k : Nat) (x : Int) (hk : k < nt) (hk2 : twin k < nt) (hnt : nt <= 200000)
  (hx0 : 0 <= x) (hx1 : x <= 2305843009213693952) (hl0 : 0 <= left.getD k 0) (hl1 : left.getD k 0 <= 2305843009213693952) (hl2 : 0 <= left.getD (twin k) 0) (hl3 : left.getD (twin k) 0 <= 2305843009213693952)
  (hS : Sat B w0 w (ew b go n co at_ nt ct al cl av cv aa ca s t us to outs left level ats R)) :
  Calls Try.prog 82 #[.pointer (some ⟨b, 0, none⟩), .int .i64 k, .int .i64 x] w fun e w' => e = .returned (.tuple #[]) /\
   Sat B w0 w' (ew b go n co at_ nt ct al cl av cv aa ca s t us to outs (moved left k x) level ats R) := by
 have hll : left.length = nt := by have := (hS.len 2 rfl).1; simpa using this
 obtain ⟨gl, cl', hgv, _, _⟩ := hS.opened 2 rfl (by omega)
 simp only [Value.slice.injEq, Option.some.injEq] at hgv
 obtain ⟨rfl, -, rfl⟩ := hgv
 have c1 : w.cell? ⟨b, 1, none⟩ = some (.slice (some ⟨gl, 0, none⟩) nt cl) := hS.blkCell 0 rfl 1
 have hkl : k < left.length := by omega
 have htl : twin k < left.length := by omega
 have d1 := hS.cell0 2 rfl k _ (ints_get left k hkl)
 have hbx := oZ k (by omega)
 have hmv : moved left k x = (left.set k (left[k] - x)).set (twin k) (left[twin k] + x) := by unfold moved; rw [bg _ _ hkl, bg _ _ htl]
 have hst := ints_get (left.set k (left[k] - x)) (twin k) (by simpa using htl)
 rw [List.getElem_set_ne (Ne.symm (o6 k))] at hst
 rw [bg _ _ hkl] at hl0 hl1
 rw [bg _ _ htl] at hl2 hl3
 generalize left[k] = lk at *
 generalize left[twin k] = lt at *
 generalize twin k = k2 at *
 replace hst := Lib.hid hst
 replace hmv := Lib.hid hmv
 replace hll := Lib.hid hll
 have hsl : (ints (left.set k (lk - x))).length = nt := by simpa using hll.out
 replace hsl := Lib.hid hsl
 have hmap : (ints left).set k (.int .i64 (lk - x)) = ints (left.set k (lk - x)) := by simp [ints]
 replace hmap := Lib.hid hmap
 go_enter Try.func82, Try.ntmps82
 go_wp2_with (first
  | ((with_reducible show wpList _ _ _ (Oper.mk none _ _ _ _ _ :: _) _ _); (refine dL (u := .int .i64 (lk - x)) (xs := ints left) rfl 3 _ _ rfl 2 hS rfl k rfl (by simpa using hkl) rfl rfl (by kernel_rfl) ?_; intro w1 hS1; replace hS1 : Sat B w0 w1 (ew b go n co at_ nt ct (some ⟨gl, 0, none⟩) cl av cv aa ca s t us to outs (left.set k (lk - x)) level ats R) := (by simpa [ew] using hS1); have c2 : w1.cell? ⟨b, 1, none⟩ = some (.slice (some ⟨gl, 0, none⟩) nt cl) := hS1.blkCell 0 rfl 1; have d2 := hS1.cell0 2 rfl k2 _ hst.out; clear c1 d1 hS))
  | ((with_reducible show wpList _ _ _ (Oper.mk none _ _ _ _ _ :: _) _ _); go_must (refine dL (u := .int .i64 (lt + x)) (xs := ints (left.set k (lk - x))) rfl 3 _ _ rfl 2 hS1 rfl k2 rfl (by rw [hsl.out]; exact hk2) rfl rfl (by kernel_rfl) ?_; intro w2 hS2)))
 go_end0
 refine ⟨rfl, ?_⟩
 rw [hmv.out]
 have := hS2
 simpa [ew] using this
end Go.Proofs.Yteamkjblpglliaa
end
section
set_option linter.unusedSimpArgs false
set_option linter.unusedVariables false
namespace Go.Proofs.Yteamkjblpglliaa
def lv (level : List Int) (v : Nat) : Int := level.getD v (-1)
theorem nY {level : List Int} {v : Nat} (h : v < level.length) : lv level v = level[v] := bg _ _ h
theorem sx {level : List Int} {w v : Nat} {x : Int} (hw : w < level.length) : lv (level.set w x) v = if v = w then x else lv level v := by
 unfold lv
 split
 ·rename_i h; subst h; exact db _ _ _ hw
 ·rename_i h; exact bB _ _ _ h
theorem wy : ∀ (n : Nat) (l : List Nat), l.Nodup -> (∀ x ∈ l, x < n) -> l.length <= n := by
 intro n
 induction n with
 | zero =>
  intro l _ h
  cases l with
  | nil => simp
  | cons a l => exact absurd (h a (by simp)) (by omega)
 | succ n ih =>
  intro l hn h
  by_cases hm : n ∈ l
  ·have h1 := ih (l.erase n) (hn.erase n) (fun x hx => by
    have h2 := h x (List.mem_of_mem_erase hx)
    have h3 : x ≠ n := fun e => by
     subst e
     exact (List.Nodup.mem_erase_iff hn).1 hx |>.1 rfl
    omega)
   rw [List.length_erase_of_mem hm] at h1
   omega
  ·have := ih l hn (fun x hx => by
    have h2 := h x hx
    have h3 : x ≠ n := fun e => hm (e ▸ hx)
    omega)
   omega
def wu (n nt : Nat) (to : List Nat) (outs : List (List Nat)) : Prop := ∀ v, ∀ k ∈ outs.getD v [], k < nt /\ to.getD k 0 < n
structure Bfs (n s : Nat) (outs : List (List Nat)) (to : List Nat) (left level : List Int) (ds : List Nat) (h : Nat) : Prop where
 len : level.length = n
 nod : ds.Nodup
 lt : ∀ v ∈ ds, v < n
 iff : ∀ v, 0 <= lv level v <-> v ∈ ds
 neg : ∀ v, -1 <= lv level v
 src : s ∈ ds
 zero : ∀ v, lv level v = 0 <-> v = s
 lvl : ∀ (i : Nat) (hi : i < ds.length), lv level ds[i] <= i
 pred : ∀ v, 0 < lv level v -> ∃ u k, k ∈ outs.getD u [] /\ to.getD k 0 = v /\ 0 < left.getD k 0 /\ lv level u + 1 = lv level v
 hle : h <= ds.length
 clo : ∀ (i : Nat) (_ : i < h) (hi2 : i < ds.length), ∀ k ∈ outs.getD ds[i] [], 0 < left.getD k 0 -> 0 <= lv level (to.getD k 0)
theorem Bfs.start {n s : Nat} {outs : List (List Nat)} {to : List Nat} {left : List Int} (hs : s < n) : Bfs n s outs to left ((List.replicate n (-1)).set s 0) [s] 0 := by
 have hl : ∀ v, lv ((List.replicate n (-1 : Int)).set s 0) v = if v = s then 0 else -1 := by
  intro v
  rw [sx (by simpa using hs)]
  split
  ·rfl
  ·unfold lv
   rcases Nat.lt_or_ge v n with h | h
   ·rw [bg _ _ (by simpa using h)]; simp
   ·rw [gS _ _ (by simpa using h)]
 refine ⟨by simp, by simp, by simpa using hs, ?_, ?_, by simp, ?_, ?_, ?_, by simp, ?_⟩
 ·intro v; rw [hl]; split <;> simp_all
 ·intro v; rw [hl]; split <;> omega
 ·intro v; rw [hl]; split <;> simp_all
 ·intro i hi
  have : i = 0 := by simp at hi; omega
  subst this; rw [hl]; simp
 ·intro v hv; rw [hl] at hv; split at hv <;> omega
 ·intro i hi; omega
theorem Bfs.visit {n s : Nat} {outs : List (List Nat)} {to : List Nat} {left level : List Int} {ds : List Nat} {h : Nat} (H : Bfs n s outs to left level ds h) {j k w : Nat} (hj : j < ds.length) (hk : k ∈ outs.getD ds[j] []) (hw : to.getD k 0 = w) (hwn : w < n) (hl : 0 < left.getD k 0) (hn : lv level w < 0) :
  Bfs n s outs to left (level.set w (lv level ds[j] + 1)) (ds ++ [w]) h := by
 have hwl : w < level.length := by rw [H.len]; exact hwn
 have hv : ∀ v, lv (level.set w (lv level ds[j] + 1)) v = if v = w then lv level ds[j] + 1 else lv level v := fun v => sx hwl
 have hwd : w ∉ ds := fun hm => by have := (H.iff w).2 hm; omega
 have hj0 : 0 <= lv level ds[j] := (H.iff _).2 (List.getElem_mem hj)
 refine ⟨by simp [H.len], ?_, ?_, ?_, ?_, by simp [H.src], ?_, ?_, ?_, by have := H.hle; simp; omega, ?_⟩
 ·rw [List.nodup_append]
  exact ⟨H.nod, by simp, fun a ha b hb => by simp at hb; subst hb; exact fun e => hwd (e ▸ ha)⟩
 ·intro v hvm
  rcases List.mem_append.1 hvm with h1 | h1
  ·exact H.lt v h1
  ·simp at h1; omega
 ·intro v
  rw [hv]
  split
  ·rename_i e; subst e; simp; omega
  ·rename_i e; rw [H.iff]; simp [e]
 ·intro v; rw [hv]; split
  ·omega
  ·exact H.neg v
 ·intro v; rw [hv]; split
  ·rename_i e
   subst e
   constructor
   ·intro h1; omega
   ·intro h1; subst h1; exact absurd H.src hwd
  ·exact H.zero v
 ·intro i hi
  rcases Nat.lt_or_ge i ds.length with h1 | h1
  ·rw [List.getElem_append_left h1, hv, if_neg (fun (e : ds[i] = w) => hwd (e ▸ List.getElem_mem h1))]
   exact H.lvl i h1
  ·have h2 : i = ds.length := by simp at hi; omega
   subst h2
   rw [List.getElem_append_right (Nat.le_refl _)]
   simp only [Nat.sub_self, List.getElem_cons_zero]
   rw [hv, if_pos rfl]
   have := H.lvl j hj
   omega
 ·intro v hv0
  rw [hv] at hv0
  by_cases e : v = w
  ·subst e
   refine ⟨ds[j], k, hk, hw, hl, ?_⟩
   rw [hv, hv, if_pos rfl, if_neg (fun (e : ds[j] = v) => hwd (e ▸ List.getElem_mem hj))]
  ·rw [if_neg e] at hv0
   obtain ⟨u, k', h1, h2, h3, h4⟩ := H.pred v hv0
   have hu : u ≠ w := fun e => by subst e; omega
   exact ⟨u, k', h1, h2, h3, by rw [hv, hv, if_neg e, if_neg hu]; exact h4⟩
 ·intro i hi hi2 k' hk' hl'
  have h1 : i < ds.length := by have := H.hle; omega
  rw [List.getElem_append_left h1] at hk'
  have := H.clo i hi h1 k' hk' hl'
  rw [hv]; split <;> omega
theorem Bfs.next {n s : Nat} {outs : List (List Nat)} {to : List Nat} {left level : List Int} {ds : List Nat} {h : Nat} (H : Bfs n s outs to left level ds h) (hh : h < ds.length)
  (hc : ∀ k ∈ outs.getD ds[h] [], 0 < left.getD k 0 -> 0 <= lv level (to.getD k 0)) : Bfs n s outs to left level ds (h + 1) :=
 { H with
  hle := hh
  clo := fun i hi hi2 => by
   rcases Nat.lt_or_ge i h with h1 | h1
   ·exact H.clo i h1 hi2
   ·obtain rfl : i = h := by omega
    exact hc }
theorem Bfs.le {n s : Nat} {outs : List (List Nat)} {to : List Nat} {left level : List Int} {ds : List Nat} {h : Nat} (H : Bfs n s outs to left level ds h) : ds.length <= n := wy n ds H.nod H.lt
structure jX (n s : Nat) (outs : List (List Nat)) (to : List Nat) (left level : List Int) : Prop where
 len : level.length = n
 neg : ∀ v, -1 <= lv level v
 lt : ∀ v, lv level v < n
 zero : ∀ v, lv level v = 0 <-> v = s
 pred : ∀ v, 0 < lv level v -> ∃ u k, k ∈ outs.getD u [] /\ to.getD k 0 = v /\ 0 < left.getD k 0 /\ lv level u + 1 = lv level v
 clo : ∀ u, 0 <= lv level u -> ∀ k ∈ outs.getD u [], 0 < left.getD k 0 -> 0 <= lv level (to.getD k 0)
theorem Bfs.done {n s : Nat} {outs : List (List Nat)} {to : List Nat} {left level : List Int} {ds : List Nat} (H : Bfs n s outs to left level ds ds.length) (hn : 0 < n) : jX n s outs to left level := by
 refine ⟨H.len, H.neg, ?_, H.zero, H.pred, ?_⟩
 ·intro v
  by_cases h : 0 <= lv level v
  ·obtain ⟨i, hi, rfl⟩ := List.getElem_of_mem ((H.iff v).1 h)
   have := H.lvl i hi
   have := H.le
   omega
  ·omega
 ·intro u hu k hk hl
  obtain ⟨i, hi, rfl⟩ := List.getElem_of_mem ((H.iff u).1 hu)
  exact H.clo i hi hi k hk hl
end Go.Proofs.Yteamkjblpglliaa
end
