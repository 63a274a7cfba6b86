import Derived.Test.YteamkjblpglliaaSlOps
import Derived.RegionTactic
import Derived.BigRegion
import Derived.Deep.RegionHeld3
import Derived.Test.YteamkjblpglliaaProg
section
set_option linter.unusedSimpArgs false
set_option linter.unusedVariables false
namespace Go.SL
open Go.RowKit
theorem Sat.old {B : Nat} {w0 w : World} {L : List d8} (hS : Sat B w0 w L) {g o : Nat} {u : Value} (hg : g < B) (h : w0.cell? ⟨g, o, none⟩ = some u) : w.cell? ⟨g, o, none⟩ = some u :=
 (hS.below.cell (p := ⟨g, o, none⟩) hg).trans h
theorem Sat.front {B : Nat} {w0 w : World} {L : List d8} {A : d8} (hS : Sat B w0 w (L ++ [A])) : Sat B w0 w (A :: L) := by
 refine hS.sel (L.length :: List.range L.length) ?_ ?_
 ·rw [List.nodup_cons]
  exact ⟨by simp, List.nodup_range⟩
 ·rw [List.map_cons, List.map_cons]
  congr 1
  ·simp
  ·apply List.ext_getElem
   ·simp
   ·intro i h1 h2
    simp at h1
    simp [List.getElem?_append_left h1]
theorem Sat.tail {B : Nat} {w0 w : World} {L : List d8} {A : d8} (hS : Sat B w0 w (A :: L)) : Sat B w0 w L := by
 obtain ⟨c, hc⟩ := hS.own
 refine ⟨hS.below, hS.base, fun b => c b - 1 + (if c b = 0 then L.length else 0), ?_⟩
 intro i A' hi
 have h := hc (i + 1) A' (by simpa using hi)
 have e : part B w (fun b => c b - 1 + (if c b = 0 then L.length else 0)) i = part B w c (i + 1) := by
  have hl : i < L.length := (List.getElem?_eq_some_iff.1 hi).1
  funext b
  unfold part
  by_cases h0 : c b = 0
  ·simp only [h0, if_true]
   rw [if_neg (by omega), if_neg (by omega)]
  ·simp only [h0, if_false]
   by_cases h1 : c b = i + 1
   ·by_cases h2 : B <= b
    ·rw [if_pos ⟨by omega, h2⟩, if_pos ⟨h1, h2⟩]
    ·rw [if_neg (fun h => h2 h.2), if_neg (fun h => h2 h.2)]
   ·rw [if_neg (by omega), if_neg (by omega)]
 rw [e]; exact h
theorem dL {P : Program} {ops : Array Oper} {rest : List Oper} {o : Oper} {a : Act} {Q : Exit -> Act -> World -> Prop} {w : World} {B : Nat} {w0 : World} {L : List d8} (hgd : o.guard = none) (ty : TypeId) (x y : Operand) (ho : o.op = .store ty x y)
  (k : Nat) {e : TypeId} {size g n cap : Nat} {xs : List Value} (hS : Sat B w0 w L) (hk : L[k]? = some (row e size 0 (.slice (some ⟨g, 0, none⟩) n cap) n xs)) (j : Nat) (hx : a.eval x = .pointer (some ⟨g, j, none⟩)) (hj : j < xs.length) {u : Value} (hy : a.eval y = u) (h1 : u.oneCell' = true)
  (hi : (P.info? ty).map (·.size) = some 1)
  (h : ∀ w', Sat B w0 w' (L.set k (row e size 0 (.slice (some ⟨g, 0, none⟩) n cap) n (xs.set j u))) -> wpList P ops Q rest (a.put o.dst undef) w') : wpList P ops Q (o :: rest) a w :=
 te hgd ty x y ho k hS hk j (by rw [Nat.zero_add]; exact hx) hj hy h1 hi h
theorem Sat.tailRow {B : Nat} {w0 w : World} {L : List d8} (hS : Sat B w0 w L) (i : Nat) {e : TypeId} {off g n cap : Nat} {x : Value} {xs : List Value} (hi : L[i]? = some (row e 1 off (.slice (some ⟨g, off, none⟩) (n + 1) cap) (n + 1) (x :: xs))) :
  Sat B w0 w (L.set i (row e 1 (off + 1) (.slice (if cap = 1 then some ⟨g, off, none⟩ else some ⟨g, off + 1, none⟩) n (cap - 1)) n xs)) := by
 refine hS.weak i _ _ hi fun p hp => ?_
 obtain ⟨h1, h2⟩ := hp
 refine ⟨by simpa using h1, ?_⟩
 rcases h2 with ⟨a, _, h⟩ | ⟨g', cap', cur, hv, hh, h3, h4, h5, h6⟩
 ·omega
 ·simp only [Value.slice.injEq, Option.some.injEq, Addr.mk.injEq, and_true, true_and] at hv
  obtain ⟨rfl, rfl⟩ := hv
  by_cases hc : cap = 1
  ·left
   exact ⟨some ⟨g, off, none⟩, by simp [hc]; omega, by omega⟩
  ·right
   refine ⟨g, cap - 1, cur, by simp [hc], hh, by omega, by omega, by omega, ?_⟩
   rw [Nat.mul_one] at h6 ⊢
   have : cur.toList.drop (off + 1) = (cur.toList.drop off).drop 1 := by rw [List.drop_drop]
   rw [this]
   have h7 := congrArg (List.drop 1) h6
   rw [List.drop_take] at h7
   simpa using h7
end Go.SL
end
section
set_option linter.unusedSimpArgs false
set_option linter.unusedVariables false
namespace Go.SL
open Go.RowKit
def mJ (e size : Nat) (us : List Value) (xss : List (List Value)) : d8 := fun h =>
 us.length = xss.length /\ ∃ c : Nat -> Nat, ∀ (k : Nat) (u : Value) (xs : List Value), us[k]? = some u -> xss[k]? = some xs -> row e size 0 u (xs.length / size) xs (fun b => if c b = k then h b else none)
theorem Sat.bagLen {B : Nat} {w0 w : World} {L : List d8} (hS : Sat B w0 w L) (i : Nat) {e size : Nat} {us : List Value} {xss : List (List Value)} (hi : L[i]? = some (mJ e size us xss)) : us.length = xss.length := by
 obtain ⟨c, hc⟩ := hS.own
 exact (hc i _ hi).1
theorem Sat.bagRow {B : Nat} {w0 w : World} {L : List d8} (hS : Sat B w0 w L) (i : Nat) {e size : Nat} {us : List Value} {xss : List (List Value)} (hi : L[i]? = some (mJ e size us xss)) (k : Nat) {u : Value} {xs : List Value} (hu : us[k]? = some u) (hx : xss[k]? = some xs) : row e size 0 u (xs.length / size) xs (full w) := by
 obtain ⟨c, hc⟩ := hS.own
 obtain ⟨_, d, hd⟩ := hc i _ hi
 refine (hd k u xs hu hx).mono fun b o h => ?_
 split at h
 ·exact (e9 h).2.2
 ·cases h
theorem Sat.bagRd {B : Nat} {w0 w : World} {L : List d8} (hS : Sat B w0 w L) (i : Nat) {e size : Nat} {us : List Value} {xss : List (List Value)} (hi : L[i]? = some (mJ e size us xss)) (k : Nat) {u : Value} {xs : List Value} (hu : us[k]? = some u) (hx : xss[k]? = some xs) :
  ∃ a cap, u = .slice a (xs.length / size) cap /\ SL.rd w a xs /\ xs.length = xs.length / size * size /\ xs.length / size <= 9223372036854775807 := by
 have h := hS.bagRow i hi k hu hx
 obtain ⟨a, cap, rfl, hm⟩ := h.shape
 exact ⟨a, cap, rfl, h.rd, h.1, hm⟩
theorem wm (e size n : Nat) (h : kN) : mJ e size (List.replicate n (.slice none 0 0)) (List.replicate n []) h := by
 refine ⟨by simp, fun _ => 0, ?_⟩
 intro k u xs hu hx
 have h1 : u = .slice none 0 0 := by
  rw [List.getElem?_replicate] at hu
  split at hu
  ·exact (Option.some.inj hu).symm
  ·cases hu
 have h2 : xs = [] := by
  rw [List.getElem?_replicate] at hx
  split at hx
  ·exact (Option.some.inj hx).symm
  ·cases hx
 subst h1 h2
 exact ⟨by simp, .inl ⟨none, by simp, by simp⟩⟩
theorem Sat.bagNew {B : Nat} {w0 w : World} {L : List d8} (hS : Sat B w0 w L) (e size n : Nat) : Sat B w0 w (L ++ [mJ e size (List.replicate n (.slice none 0 0)) (List.replicate n [])]) := by
 obtain ⟨c, hc⟩ := hS.own
 refine ⟨hS.below, hS.base, c, ?_⟩
 intro i A hi
 by_cases h : i < L.length
 ·exact hc i A (by rwa [List.getElem?_append_left h] at hi)
 ·rw [List.getElem?_append_right (by omega)] at hi
  have : A = mJ e size (List.replicate n (.slice none 0 0)) (List.replicate n []) := by
   cases hj : i - L.length with
   | zero => simp [hj] at hi; exact hi.symm
   | succ j => simp [hj] at hi
  subst this
  exact wm e size n _
section
variable {P : Program} {t e : TypeId} {z : List Value} {bytes : Nat}
theorem Sat.bagAppend {B : Nat} {w0 w : World} {L : List d8} (hS : Sat B w0 w L) (T : SliceT P t e z bytes) (hz : 0 < z.length) (ty : TypeId) (i : Nat) (us : List Value) (xss : List (List Value)) (hi : L[i]? = some (mJ e z.length us xss))
  (k : Nat) (v : Value) (xs : List Value) (hv : us[k]? = some v) (hxs : xss[k]? = some xs)
  (ad : Addr) (m c : Nat) (news : List Value) (hl : news.length = m * z.length) (hnews : ∀ j u, news[j]? = some u -> w.cell? (ad.add j) = some u) (h1 : ∀ u ∈ news, u.oneCell' = true)
  (hm : 0 < m) (hbytes : (xs.length / z.length + m) * bytes <= 140737488355328) (h63 : xs.length / z.length + m <= maxLen) :
  ∃ a cap w', (Builtin.append_ #[t, t] ty #[v, .slice (some ad) m c]).run P w = .ok (.slice (some a) (xs.length / z.length + m) cap) w' /\
   Sat B w0 w' (L.set i (mJ e z.length (us.set k (.slice (some a) (xs.length / z.length + m) cap)) (xss.set k (xs ++ news)))) := by
 have hrow := hS.bagRow i hi k hv hxs
 obtain ⟨g, off', cap, w', hr, hcase, hnc, hcm, cur, hg, hcs, ht⟩ := ke T hz ty w 0 v _ xs hrow ad m c news hl hnews h1 hm hbytes h63
 have hoff : off' = 0 := by rcases hcase with ⟨_, _, h⟩ | ⟨_, h, _⟩ <;> exact h
 subst hoff
 have hlen : (xs ++ news).length = (xs.length / z.length + m) * z.length := by rw [List.length_append, hl, Nat.add_mul, <- hrow.1]
 have hdiv : (xs ++ news).length / z.length = xs.length / z.length + m := by rw [hlen, Nat.mul_div_cancel _ hz]
 refine ⟨_, cap, w', hr, ?_⟩
 have hul := hS.bagLen i hi
 have hk1 : k < us.length := (List.getElem?_eq_some_iff.1 hv).1
 have hk2 : k < xss.length := (List.getElem?_eq_some_iff.1 hxs).1
 have key : ∀ (row0 : Option Nat), w.grownBy w' row0 -> (∀ g0, row0 = some g0 -> g0 = g /\ ∃ cap', v = .slice (some ⟨g, 0, none⟩) (xs.length / z.length) cap' /\ 0 < cap') -> (row0 = none -> g = w.heap.size) ->
   Sat B w0 w' (L.set i (mJ e z.length (us.set k (.slice (some ⟨g, 0, none⟩) (xs.length / z.length + m) cap)) (xss.set k (xs ++ news)))) := by
  intro row0 hgr hrow0 hnone
  refine hS.update i _ _ hi row0 hgr ?_
  intro p hp hpw
  obtain ⟨_, d, hd⟩ := hp
  have hpg : ∀ g0, row0 = some g0 -> (p g0).isSome = true /\ d g0 = k := by
   intro g0 h0
   obtain ⟨rfl, cap', hv', hc0⟩ := hrow0 g0 h0
   rcases (hd k v xs hv hxs).2 with ⟨a0, h0, _⟩ | ⟨g', cap'', cur', h0, hh, _⟩
   ·rw [hv'] at h0
    simp only [Value.slice.injEq] at h0
    omega
   ·rw [hv'] at h0
    simp only [Value.slice.injEq, Option.some.injEq, Addr.mk.injEq] at h0
    obtain ⟨⟨rfl, _⟩, _⟩ := h0
    simp only at hh
    split at hh
    ·rename_i hdk; exact ⟨by simp [hh], hdk⟩
    ·cases hh
  refine ⟨fun g0 h0 => (hpg g0 h0).1, fun q hq1 hq2 => ⟨by simpa using hul, fun b => if w.heap.size <= b then k else d b, ?_⟩⟩
  intro j u ys hu hy
  by_cases hjk : j = k
  ·subst hjk
   rw [List.getElem?_set_self hk1] at hu
   rw [List.getElem?_set_self hk2] at hy
   obtain rfl := Option.some.inj hu
   obtain rfl := Option.some.inj hy
   rw [hdiv]
   refine ⟨hlen, .inr ⟨g, cap, cur, rfl, ?_, hnc, hcm, hcs, ht⟩⟩
   cases hr0 : row0 with
   | none =>
    have hgs := hnone hr0
    simp only [hgs, Nat.le_refl, if_true]
    rw [hq2 _ (Nat.le_refl _), <- hgs]; exact hg
   | some g0 =>
    obtain ⟨rfl, _⟩ := hrow0 g0 hr0
    obtain ⟨hps, hdk⟩ := hpg g0 hr0
    obtain ⟨o, ho⟩ := Option.isSome_iff_exists.1 hps
    have hlt := fc (hpw _ _ ho)
    simp only [show ¬ w.heap.size <= g0 by omega, if_false, hdk, if_true]
    rw [hq1 g0 hps]; exact hg
  ·rw [List.getElem?_set_ne (by omega)] at hu hy
   refine (hd j u ys hu hy).mono fun b o hb => ?_
   split at hb
   ·rename_i hdj
    have hpb : (p b).isSome = true := by simp [hb]
    have hlt := fc (hpw _ _ hb)
    simp only [show ¬ w.heap.size <= b by omega, if_false, hdj, if_true]
    rw [hq1 b hpb, hgr.block b hlt (fun e => by have := (hpg b e.symm).2; omega)]
    exact hpw _ _ hb
   ·cases hb
 rcases hcase with ⟨hgr, hgn, _⟩ | ⟨hgr, _, cap', hv', hc0⟩
 ·exact key none hgr (by simp) (fun _ => hgn)
 ·exact key (some g) hgr (fun g0 h0 => ⟨(Option.some.inj h0).symm, cap', hv', hc0⟩) (by simp)
theorem uN {o : Oper} {a : Act} {K : Act -> World -> Prop} {Q : Exit -> Act -> World -> Prop} {w : World} {B : Nat} {w0 : World} {L : List d8} (T : SliceT P t e z bytes) (s x : Operand)
  (ho : o.op = .call { callee := .builtin .append, args := #[s, x], argTypes := #[t, t] }) (i : Nat) {us : List Value} {xss : List (List Value)} (hS : Sat B w0 w L) (hi : L[i]? = some (mJ e z.length us xss)) (k n : Nat) {v : Value} {xs : List Value} (hn : xs.length = n * z.length) (hv : us[k]? = some v) (hxs : xss[k]? = some xs) (hs : a.eval s = v)
  (ad : Addr) (m c : Nat) (news : List Value) (hx : a.eval x = .slice (some ad) m c) (hnews : ∀ j u, news[j]? = some u -> w.cell? (ad.add j) = some u) (h1 : ∀ u ∈ news, u.oneCell' = true) (hl : news.length = m * z.length)
  (hz : 0 < z.length) (hm : 0 < m) (hbytes : (n + m) * bytes <= 140737488355328) (h63 : n + m <= maxLen)
  (h : ∀ a' cap w', Sat B w0 w' (L.set i (mJ e z.length (us.set k (.slice (some a') (n + m) cap)) (xss.set k (xs ++ news)))) -> K (a.put o.dst (.slice (some a') (n + m) cap)) w') : o.wp P a w K Q := by
 have hnn : xs.length / z.length = n := by rw [hn, Nat.mul_div_cancel _ hz]
 subst hnn
 obtain ⟨a', cap, w', hr, hS'⟩ := hS.bagAppend T hz o.type i us xss hi k v xs hv hxs ad m c news hl hnews h1 hm hbytes h63
 unfold Oper.wp execOp
 simp only [ho, resolve, invoke, builtin, Sem.run_bind, Sem.run_pure, Result.andThen_ok, List.map_toArray, List.map_cons, List.map_nil, hs, hx, hr]
 exact h a' cap w' hS'
end
end Go.SL
end
section
set_option linter.unusedSimpArgs false
set_option linter.unusedVariables false
namespace Go.Proofs.Yteamkjblpglliaa
open Go.RowKit Go.SL
theorem T.ints : SliceT Try.prog 22 3 [.int .i64 0] 8 := SliceT.mk' (.int .i64 0) 1 Try.underlying22 (by kernel_rfl) rfl rfl
theorem T.bools : SliceT Try.prog 42 4 [.bool false] 1 := SliceT.mk' (.bool false) 1 Try.underlying42 (by kernel_rfl) rfl rfl
abbrev ints (l : List Int) : List Value := l.map (Value.int .i64)
abbrev bools (l : List Bool) : List Value := l.map Value.bool
end Go.Proofs.Yteamkjblpglliaa
end
section
set_option linter.unusedSimpArgs false
set_option linter.unusedVariables false
namespace Go.Proofs.Yteamkjblpglliaa
open Go.RowKit Go.SL
structure Edge where
 f : Int
 t : Int
 c : Int
 deriving DecidableEq, Inhabited
def rf (e : Edge) : List Value := [.int .i64 e.f, .int .i64 e.t, .int .i64 e.c]
def eH (l : List Edge) : List Value := (l.map rf).flatten
theorem js (e : Edge) (l : List Edge) : eH (e :: l) = rf e ++ eH l := rfl
theorem fk (l : List Edge) : (eH l).length = l.length * 3 := by
 induction l with
 | nil => rfl
 | cons e l ih => rw [js, List.length_append, ih]; simp [rf]; omega
theorem tU (l : List Edge) : ∀ (k : Nat) (h : k < l.length), (eH l)[k * 3]? = some (.int .i64 l[k].f) /\ (eH l)[k * 3 + 1]? = some (.int .i64 l[k].t) /\ (eH l)[k * 3 + 2]? = some (.int .i64 l[k].c) := by
 induction l with
 | nil => intro k h; simp at h
 | cons e l ih =>
  intro k h
  cases k with
  | zero => simp [js, rf]
  | succ k =>
   have := ih k (by simpa using h)
   have e1 : (k + 1) * 3 = k * 3 + 3 := by omega
   rw [e1, js]
   have hl : (rf e).length = 3 := rfl
   rw [List.getElem?_append_right (by omega), List.getElem?_append_right (by omega), List.getElem?_append_right (by omega)]
   simpa [hl, Nat.add_sub_cancel, show k * 3 + 3 + 1 - 3 = k * 3 + 1 by omega, show k * 3 + 3 + 2 - 3 = k * 3 + 2 by omega] using this
theorem T.edges : SliceT Try.prog 36 75 [.int .i64 0, .int .i64 0, .int .i64 0] 24 := SliceT.mk' (.agg #[.int .i64 0, .int .i64 0, .int .i64 0]) 3 Try.underlying36 (by kernel_rfl) rfl rfl
def l9 (n : Int) (e : Edge) : Prop := 0 <= e.f /\ e.f < n /\ 0 <= e.t /\ e.t < n /\ e.f ≠ e.t /\ 0 <= e.c /\ e.c <= 1099511627776
structure VNet (n s t : Int) (es : List Edge) : Prop where
 n2 : 2 <= n
 n258 : n <= 258
 s0 : 0 <= s
 sn : s < n
 t0 : 0 <= t
 tn : t < n
 st : s ≠ t
 len : es.length <= 65536
 all : ∀ e ∈ es, l9 n e
end Go.Proofs.Yteamkjblpglliaa
end
