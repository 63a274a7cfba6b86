/-
  OWN WORK. Several small texts in one.
-/
import Derived.Test.YtkhbiknjkffpjaaSlMore
import Derived.Test.YtkhbiknjkffpjaaProg
import Derived.Test.YtkhbiknjkffpjaaSlOps
section
set_option linter.unusedSimpArgs false
set_option linter.unusedVariables false
namespace Go.SL
open Go.RowKit

/-- Each us[k] is an owned slice of its own that holds xss[k]. -/
def bag (e size : Nat) (us : List Value) (xss : List (List Value)) : Asn := fun h =>
  us.length = xss.length ∧ ∃ c : Nat → Nat, ∀ (k : Nat) (u : Value) (xs : List Value), us[k]? = some u → xss[k]? = some xs → row e size 0 u (xs.length / size) xs (fun b => if c b = k then h b else none)

theorem Sat.bagLen {B : Nat} {w0 w : World} {L : List Asn} (hS : Sat B w0 w L) (i : Nat) {e size : Nat} {us : List Value} {xss : List (List Value)} (hi : L[i]? = some (bag e size us xss)) : us.length = xss.length := by
  obtain ⟨c, hc⟩ := hS.own
  exact (hc i _ hi).1

theorem Sat.bagRow {B : Nat} {w0 w : World} {L : List Asn} (hS : Sat B w0 w L) (i : Nat) {e size : Nat} {us : List Value} {xss : List (List Value)} (hi : L[i]? = some (bag e size us xss)) (k : Nat) {u : Value} {xs : List Value} (hu : us[k]? = some u) (hx : xss[k]? = some xs) : row e size 0 u (xs.length / size) xs (full w) := by
  obtain ⟨c, hc⟩ := hS.own
  obtain ⟨_, d, hd⟩ := hc i _ hi
  refine (hd k u xs hu hx).mono fun b o h => ?_
  split at h
  · exact (part_some h).2.2
  · cases h

/-- What an inner slice looks like, and what it reads. -/
theorem Sat.bagRd {B : Nat} {w0 w : World} {L : List Asn} (hS : Sat B w0 w L) (i : Nat) {e size : Nat} {us : List Value} {xss : List (List Value)} (hi : L[i]? = some (bag e size us xss)) (k : Nat) {u : Value} {xs : List Value} (hu : us[k]? = some u) (hx : xss[k]? = some xs) :
    ∃ a cap, u = .slice a (xs.length / size) cap ∧ SL.rd w a xs ∧ xs.length = xs.length / size * size ∧ xs.length / size ≤ 9223372036854775807 := by
  have h := hS.bagRow i hi k hu hx
  obtain ⟨a, cap, rfl, hm⟩ := h.shape
  exact ⟨a, cap, rfl, h.rd, h.1, hm⟩

/-- n nil slices. -/
theorem bag_nils (e size n : Nat) (h : PHeap) : bag e size (List.replicate n (.slice none 0 0)) (List.replicate n []) h := by
  refine ⟨by simp, fun _ => 0, ?_⟩
  intro k u xs hu hx
  have h1 : u = .slice none 0 0 := by
    rw [List.getElem?_replicate] at hu
    split at hu
    · exact (Option.some.inj hu).symm
    · cases hu
  have h2 : xs = [] := by
    rw [List.getElem?_replicate] at hx
    split at hx
    · exact (Option.some.inj hx).symm
    · cases hx
  subst h1 h2
  exact ⟨by simp, .inl ⟨none, by simp, by simp⟩⟩

theorem Sat.bagNew {B : Nat} {w0 w : World} {L : List Asn} (hS : Sat B w0 w L) (e size n : Nat) : Sat B w0 w (L ++ [bag e size (List.replicate n (.slice none 0 0)) (List.replicate n [])]) := by
  obtain ⟨c, hc⟩ := hS.own
  refine ⟨hS.below, hS.base, c, ?_⟩
  intro i A hi
  by_cases h : i < L.length
  · exact hc i A (by rwa [List.getElem?_append_left h] at hi)
  · rw [List.getElem?_append_right (by omega)] at hi
    have : A = bag e size (List.replicate n (.slice none 0 0)) (List.replicate n []) := by
      cases hj : i - L.length with
      | zero => simp [hj] at hi; exact hi.symm
      | succ j => simp [hj] at hi
    subst this
    exact bag_nils e size n _

section
variable {P : Program} {t e : TypeId} {z : List Value} {bytes : Nat}

/-- append to an inner slice. -/
theorem Sat.bagAppend {B : Nat} {w0 w : World} {L : List Asn} (hS : Sat B w0 w L) (T : SliceT P t e z bytes) (hz : 0 < z.length) (ty : TypeId) (i : Nat) (us : List Value) (xss : List (List Value)) (hi : L[i]? = some (bag e z.length us xss))
    (k : Nat) (v : Value) (xs : List Value) (hv : us[k]? = some v) (hxs : xss[k]? = some xs)
    (ad : Addr) (m c : Nat) (news : List Value) (hl : news.length = m * z.length) (hnews : ∀ j u, news[j]? = some u → w.cell? (ad.add j) = some u) (h1 : ∀ u ∈ news, u.oneCell' = true)
    (hm : 0 < m) (hbytes : (xs.length / z.length + m) * bytes ≤ 140737488355328) (h63 : xs.length / z.length + m ≤ maxLen) :
    ∃ a cap w', (Builtin.append_ #[t, t] ty #[v, .slice (some ad) m c]).run P w = .ok (.slice (some a) (xs.length / z.length + m) cap) w' ∧
      Sat B w0 w' (L.set i (bag e z.length (us.set k (.slice (some a) (xs.length / z.length + m) cap)) (xss.set k (xs ++ news)))) := by
  have hrow := hS.bagRow i hi k hv hxs
  obtain ⟨g, off', cap, w', hr, hcase, hnc, hcm, cur, hg, hcs, ht⟩ := run_append_sl T hz ty w 0 v _ xs hrow ad m c news hl hnews h1 hm hbytes h63
  have hoff : off' = 0 := by rcases hcase with ⟨_, _, h⟩ | ⟨_, h, _⟩ <;> exact h
  subst hoff
  have hlen : (xs ++ news).length = (xs.length / z.length + m) * z.length := by rw [List.length_append, hl, Nat.add_mul, ← hrow.1]
  have hdiv : (xs ++ news).length / z.length = xs.length / z.length + m := by rw [hlen, Nat.mul_div_cancel _ hz]
  refine ⟨_, cap, w', hr, ?_⟩
  have hul := hS.bagLen i hi
  have hk1 : k < us.length := (List.getElem?_eq_some_iff.1 hv).1
  have hk2 : k < xss.length := (List.getElem?_eq_some_iff.1 hxs).1
  have key : ∀ (row0 : Option Nat), w.grownBy w' row0 → (∀ g0, row0 = some g0 → g0 = g ∧ ∃ cap', v = .slice (some ⟨g, 0, none⟩) (xs.length / z.length) cap' ∧ 0 < cap') → (row0 = none → g = w.heap.size) →
      Sat B w0 w' (L.set i (bag e z.length (us.set k (.slice (some ⟨g, 0, none⟩) (xs.length / z.length + m) cap)) (xss.set k (xs ++ news)))) := by
    intro row0 hgr hrow0 hnone
    refine hS.update i _ _ hi row0 hgr ?_
    intro p hp hpw
    obtain ⟨_, d, hd⟩ := hp
    have hpg : ∀ g0, row0 = some g0 → (p g0).isSome = true ∧ d g0 = k := by
      intro g0 h0
      obtain ⟨rfl, cap', hv', hc0⟩ := hrow0 g0 h0
      rcases (hd k v xs hv hxs).2 with ⟨a0, h0, _⟩ | ⟨g', cap'', cur', h0, hh, _⟩
      · rw [hv'] at h0
        simp only [Value.slice.injEq] at h0
        omega
      · rw [hv'] at h0
        simp only [Value.slice.injEq, Option.some.injEq, Addr.mk.injEq] at h0
        obtain ⟨⟨rfl, _⟩, _⟩ := h0
        simp only at hh
        split at hh
        · rename_i hdk; exact ⟨by simp [hh], hdk⟩
        · cases hh
    refine ⟨fun g0 h0 => (hpg g0 h0).1, fun q hq1 hq2 => ⟨by simpa using hul, fun b => if w.heap.size ≤ b then k else d b, ?_⟩⟩
    intro j u ys hu hy
    by_cases hjk : j = k
    · subst hjk
      rw [List.getElem?_set_self hk1] at hu
      rw [List.getElem?_set_self hk2] at hy
      obtain rfl := Option.some.inj hu
      obtain rfl := Option.some.inj hy
      rw [hdiv]
      refine ⟨hlen, .inr ⟨g, cap, cur, rfl, ?_, hnc, hcm, hcs, ht⟩⟩
      cases hr0 : row0 with
      | none =>
        have hgs := hnone hr0
        simp only [hgs, Nat.le_refl, if_true]
        rw [hq2 _ (Nat.le_refl _), ← hgs]; exact hg
      | some g0 =>
        obtain ⟨rfl, _⟩ := hrow0 g0 hr0
        obtain ⟨hps, hdk⟩ := hpg g0 hr0
        obtain ⟨o, ho⟩ := Option.isSome_iff_exists.1 hps
        have hlt := lt_of_heap (hpw _ _ ho)
        simp only [show ¬ w.heap.size ≤ g0 by omega, if_false, hdk, if_true]
        rw [hq1 g0 hps]; exact hg
    · rw [List.getElem?_set_ne (by omega)] at hu hy
      refine (hd j u ys hu hy).mono fun b o hb => ?_
      split at hb
      · rename_i hdj
        have hpb : (p b).isSome = true := by simp [hb]
        have hlt := lt_of_heap (hpw _ _ hb)
        simp only [show ¬ w.heap.size ≤ b by omega, if_false, hdj, if_true]
        rw [hq1 b hpb, hgr.block b hlt (fun e => by have := (hpg b e.symm).2; omega)]
        exact hpw _ _ hb
      · cases hb
  rcases hcase with ⟨hgr, hgn, _⟩ | ⟨hgr, _, cap', hv', hc0⟩
  · exact key none hgr (by simp) (fun _ => hgn)
  · exact key (some g) hgr (fun g0 h0 => ⟨(Option.some.inj h0).symm, cap', hv', hc0⟩) (by simp)

/-- At the operation. -/
theorem wp_bapp {o : Oper} {a : Act} {K : Act → World → Prop} {Q : Exit → Act → World → Prop} {w : World} {B : Nat} {w0 : World} {L : List Asn} (T : SliceT P t e z bytes) (s x : Operand)
    (ho : o.op = .call { callee := .builtin .append, args := #[s, x], argTypes := #[t, t] }) (i : Nat) {us : List Value} {xss : List (List Value)} (hS : Sat B w0 w L) (hi : L[i]? = some (bag e z.length us xss)) (k n : Nat) {v : Value} {xs : List Value} (hn : xs.length = n * z.length) (hv : us[k]? = some v) (hxs : xss[k]? = some xs) (hs : a.eval s = v)
    (ad : Addr) (m c : Nat) (news : List Value) (hx : a.eval x = .slice (some ad) m c) (hnews : ∀ j u, news[j]? = some u → w.cell? (ad.add j) = some u) (h1 : ∀ u ∈ news, u.oneCell' = true) (hl : news.length = m * z.length)
    (hz : 0 < z.length) (hm : 0 < m) (hbytes : (n + m) * bytes ≤ 140737488355328) (h63 : n + m ≤ maxLen)
    (h : ∀ a' cap w', Sat B w0 w' (L.set i (bag e z.length (us.set k (.slice (some a') (n + m) cap)) (xss.set k (xs ++ news)))) → K (a.put o.dst (.slice (some a') (n + m) cap)) w') : o.wp P a w K Q := by
  have hnn : xs.length / z.length = n := by rw [hn, Nat.mul_div_cancel _ hz]
  subst hnn
  obtain ⟨a', cap, w', hr, hS'⟩ := hS.bagAppend T hz o.type i us xss hi k v xs hv hxs ad m c news hl hnews h1 hm hbytes h63
  unfold Oper.wp execOp
  simp only [ho, resolve, invoke, builtin, Sem.run_bind, Sem.run_pure, Result.andThen_ok, List.map_toArray, List.map_cons, List.map_nil, hs, hx, hr]
  exact h a' cap w' hS'
end

end Go.SL
end
section
set_option linter.unusedSimpArgs false
set_option linter.unusedVariables false
namespace Go.Proofs.Ytkhbiknjkffpjaa
open Go.RowKit Go.SL

theorem T.ints : SliceT Try.prog 22 3 [.int .i64 0] 8 := SliceT.mk' (.int .i64 0) 1 Try.underlying22 (by kernel_rfl) rfl rfl
theorem T.bools : SliceT Try.prog 24 4 [.bool false] 1 := SliceT.mk' (.bool false) 1 Try.underlying24 (by kernel_rfl) rfl rfl

/-- Numbers as cells. -/
abbrev ints (l : List Int) : List Value := l.map (Value.int .i64)
abbrev bools (l : List Bool) : List Value := l.map Value.bool
end Go.Proofs.Ytkhbiknjkffpjaa
end
section
set_option linter.unusedSimpArgs false
set_option linter.unusedVariables false
namespace Go.Proofs.Ytkhbiknjkffpjaa
open Go.RowKit Go.SL

structure Edge where
  f : Int
  t : Int
  c : Int
  deriving DecidableEq, Inhabited

def ecell (e : Edge) : List Value := [.int .i64 e.f, .int .i64 e.t, .int .i64 e.c]
def ecells (l : List Edge) : List Value := (l.map ecell).flatten

theorem ecells_cons (e : Edge) (l : List Edge) : ecells (e :: l) = ecell e ++ ecells l := rfl
theorem ecells_length (l : List Edge) : (ecells l).length = l.length * 3 := by
  induction l with
  | nil => rfl
  | cons e l ih => rw [ecells_cons, List.length_append, ih]; simp [ecell]; omega

theorem ecells_get (l : List Edge) : ∀ (k : Nat) (h : k < l.length), (ecells l)[k * 3]? = some (.int .i64 l[k].f) ∧ (ecells l)[k * 3 + 1]? = some (.int .i64 l[k].t) ∧ (ecells l)[k * 3 + 2]? = some (.int .i64 l[k].c) := by
  induction l with
  | nil => intro k h; simp at h
  | cons e l ih =>
    intro k h
    cases k with
    | zero => simp [ecells_cons, ecell]
    | succ k =>
      have := ih k (by simpa using h)
      have e1 : (k + 1) * 3 = k * 3 + 3 := by omega
      rw [e1, ecells_cons]
      have hl : (ecell e).length = 3 := rfl
      rw [List.getElem?_append_right (by omega), List.getElem?_append_right (by omega), List.getElem?_append_right (by omega)]
      simpa [hl, Nat.add_sub_cancel, show k * 3 + 3 + 1 - 3 = k * 3 + 1 by omega, show k * 3 + 3 + 2 - 3 = k * 3 + 2 by omega] using this

theorem T.edges : SliceT Try.prog 35 67 [.int .i64 0, .int .i64 0, .int .i64 0] 24 := SliceT.mk' (.agg #[.int .i64 0, .int .i64 0, .int .i64 0]) 3 Try.underlying35 (by kernel_rfl) rfl rfl

/-- An edge that is valid for n nodes. -/
def VEdge (n : Int) (e : Edge) : Prop := 0 ≤ e.f ∧ e.f < n ∧ 0 ≤ e.t ∧ e.t < n ∧ e.f ≠ e.t ∧ 0 ≤ e.c ∧ e.c ≤ 1099511627776
/-- A valid network. -/
structure VNet (n s t : Int) (es : List Edge) : Prop where
  n2 : 2 ≤ n
  n258 : n ≤ 258
  s0 : 0 ≤ s
  sn : s < n
  t0 : 0 ≤ t
  tn : t < n
  st : s ≠ t
  len : es.length ≤ 65536
  all : ∀ e ∈ es, VEdge n e

end Go.Proofs.Ytkhbiknjkffpjaa
end
