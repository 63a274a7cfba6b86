/-
  OWN WORK. Plain: flows and cuts: weak duality, and what the end of the search proves.
-/
import Derived.Test.YtkhbiknjkffpjaaFlRunP
import Derived.Test.YtkhbiknjkffpjaaFlCheck
set_option linter.unusedSimpArgs false
set_option linter.unusedVariables false
namespace Go.Proofs.Ytkhbiknjkffpjaa
open Go.RowKit

/-- A node's balance by the first k edges. -/
def balE (es : List Edge) (fl : List Int) (u : Nat) : Nat → Int
  | 0 => 0
  | k + 1 => balE es fl u k + (if (es.getD k default).f.toNat = u then fl.getD k 0 else 0) - (if (es.getD k default).t.toNat = u then fl.getD k 0 else 0)

structure IsFlow (n s t : Int) (es : List Edge) (fl : List Int) : Prop where
  len : fl.length = es.length
  ok : okTo es fl es.length
  bal : ∀ u : Nat, (u : Int) < n → (u : Int) ≠ s → (u : Int) ≠ t → balE es fl u es.length = 0

def flowOf (es : List Edge) (left : List Int) : List Int := (List.range es.length).map fun i => left.getD (2 * i + 1) 0

theorem flowOf_get (es : List Edge) (left : List Int) (i : Nat) (hi : i < es.length) : (flowOf es left).getD i 0 = left.getD (2 * i + 1) 0 := by
  rw [getD_lt _ _ (by simpa [flowOf] using hi)]; simp [flowOf]

theorem flowOf_cap {n s t : Int} {es : List Edge} (hv : VNet n s t es) {s' t' : Nat} {left : List Int} {value : Int} (H : RunOK s' t' es left value) (i : Nat) (hi : i < es.length) : left.getD (2 * i) 0 + left.getD (2 * i + 1) 0 = es[i].c := by
  have h := H.pair (2 * i) (by omega)
  have e2 : twin (2 * i) = 2 * i + 1 := by unfold twin; rw [if_pos (by omega)]
  obtain ⟨g1, g2⟩ := leftL_pair hv i hi
  rw [e2, g1, g2] at h
  omega

theorem balE_netA {n s t : Int} {es : List Edge} (_hv : VNet n s t es) (left : List Int) (u : Nat) : ∀ j, j ≤ es.length → balE es (flowOf es left) u j = netA (toL es) left u j := by
  intro j
  induction j with
  | zero => intro _; rfl
  | succ j ih =>
    intro hj
    have hj' : j < es.length := by omega
    obtain ⟨g1, g2⟩ := pairs_get (fun e => e.t.toNat) (fun e => e.f.toNat) 0 es j hj'
    simp only [balE, netA, give]
    rw [ih (by omega), flowOf_get es left j hj', getD_lt es default hj']
    rw [show (toL es).getD (2 * j + 1) 0 = es[j].f.toNat from g2, show (toL es).getD (2 * j) 0 = es[j].t.toNat from g1]
    omega

theorem RunOK.flow {n s t : Int} {es : List Edge} (hv : VNet n s t es) {left : List Int} {value : Int} (H : RunOK s.toNat t.toNat es left value) : IsFlow n s t es (flowOf es left) ∧ balE es (flowOf es left) s.toNat es.length = value := by
  have hb := hv.bounds
  refine ⟨⟨by simp [flowOf], ?_, ?_⟩, ?_⟩
  · intro j hj
    rw [flowOf_get es left j hj, getD_lt es default hj]
    have h1 := flowOf_cap hv H j hj
    have h2 := H.nn (2 * j)
    have h3 := H.nn (2 * j + 1)
    omega
  · intro u hu h1 h2
    rw [balE_netA hv left u _ (Nat.le_refl _), H.net, if_neg (by omega), if_neg (by omega)]; rfl
  · rw [balE_netA hv left _ _ (Nat.le_refl _), H.net, if_pos rfl, if_neg (by omega)]; omega

/-- Is the node in the set? -/
abbrev ins (set : List Bool) (v : Nat) : Bool := set.getD v false

/-- The capacity of the first k edges that lead out of the set. -/
def capS (set : List Bool) (es : List Edge) : Nat → Int
  | 0 => 0
  | k + 1 => capS set es k + if crossB set (es.getD k default) then (es.getD k default).c else 0

theorem cross_eq {n : Int} {set : List Bool} {e : Edge} (hl : (set.length : Int) = n) (he : VEdge n e) : crossB set e = (ins set e.f.toNat && !ins set e.t.toNat) := by
  obtain ⟨h1, h2, h3, h4, _, _, _⟩ := he
  have a : e.f.toNat < set.length := by omega
  have b : e.t.toNat < set.length := by omega
  simp [crossB, ins, h1, h3, a, b]

/-- A sum over the nodes of a set. -/
def sumS (set : List Bool) (g : Nat → Int) : Nat → Int
  | 0 => 0
  | m + 1 => sumS set g m + if ins set m then g m else 0

theorem ite_lt_succ {a m : Nat} (e : ¬ a = m) {p : Prop} [Decidable p] {x : Int} : (if a < m + 1 ∧ p then x else 0) = (if a < m ∧ p then x else 0) := by
  by_cases h : a < m
  · have h' : a < m + 1 := by omega
    by_cases hp : p <;> simp [h, h', hp]
  · have h' : ¬ a < m + 1 := by omega
    simp [h, h']

theorem sumS_three (set : List Bool) (g h : Nat → Int) (a b : Nat) (x : Int) (hh : ∀ u, h u = g u + (if a = u then x else 0) - (if b = u then x else 0)) : ∀ m, sumS set h m = sumS set g m + (if a < m ∧ ins set a = true then x else 0) - (if b < m ∧ ins set b = true then x else 0) := by
  intro m
  induction m with
  | zero => simp [sumS]
  | succ m ih =>
    simp only [sumS, ih, hh]
    have ha : (if a < m + 1 ∧ ins set a = true then x else 0) = (if a < m ∧ ins set a = true then x else 0) + (if ins set m then (if a = m then x else 0) else 0) := by
      by_cases e : a = m
      · subst e; simp
      · rw [ite_lt_succ e]; simp [e]
    have hb : (if b < m + 1 ∧ ins set b = true then x else 0) = (if b < m ∧ ins set b = true then x else 0) + (if ins set m then (if b = m then x else 0) else 0) := by
      by_cases e : b = m
      · subst e; simp
      · rw [ite_lt_succ e]; simp [e]
    rw [ha, hb]
    cases ins set m with
    | true => simp only [if_true]; omega
    | false => simp only [Bool.false_eq_true, if_false]; omega

theorem sumS_one (set : List Bool) (g : Nat → Int) (s : Nat) : ∀ m, (∀ u, u < m → u ≠ s → ins set u = true → g u = 0) → sumS set g m = if s < m ∧ ins set s = true then g s else 0 := by
  intro m
  induction m with
  | zero => intro _; simp [sumS]
  | succ m ih =>
    intro h
    simp only [sumS]
    rw [ih (fun u hu => h u (by omega))]
    by_cases e : s = m
    · subst e; simp
    · rw [ite_lt_succ e]
      by_cases hi : ins set m = true
      · rw [if_pos hi, h m (by omega) (fun e' => e e'.symm) hi]; omega
      · rw [if_neg hi]; omega

/-- What an edge leaves between a cut's capacity and the flow over it. -/
def gap (set : List Bool) (e : Edge) (x : Int) : Int :=
  if ins set e.f.toNat = true ∧ ins set e.t.toNat = false then e.c - x else if ins set e.f.toNat = false ∧ ins set e.t.toNat = true then x else 0
def gapS (set : List Bool) (es : List Edge) (fl : List Int) : Nat → Int
  | 0 => 0
  | k + 1 => gapS set es fl k + gap set (es.getD k default) (fl.getD k 0)

theorem gap_sum {n s t : Int} {es : List Edge} (hv : VNet n s t es) (set : List Bool) (hl : (set.length : Int) = n) (fl : List Int) : ∀ k, k ≤ es.length → capS set es k - sumS set (fun u => balE es fl u k) n.toNat = gapS set es fl k := by
  intro k
  induction k with
  | zero =>
    intro _
    have : ∀ m, sumS set (fun _ => 0) m = 0 := by
      intro m
      induction m with
      | zero => rfl
      | succ m ih => simp [sumS, ih]
    have h0 := this n.toNat
    simp only [capS, gapS, balE]
    omega
  | succ k ih =>
    intro hk
    have ih := ih (by omega)
    have hk' : k < es.length := by omega
    have he := hv.all _ (List.getElem_mem hk')
    have hed := getD_lt es default hk'
    have h3 := sumS_three set (fun u => balE es fl u k) (fun u => balE es fl u (k + 1)) es[k].f.toNat es[k].t.toNat (fl.getD k 0) (fun u => by simp only [balE, hed]) n.toNat
    obtain ⟨a1, a2, a3, a4, _, _, _⟩ := he
    have f1 : es[k].f.toNat < n.toNat := by omega
    have f2 : es[k].t.toNat < n.toNat := by omega
    simp only [f1, f2, true_and] at h3
    rw [h3]
    simp only [capS, gapS, hed, gap, cross_eq hl (hv.all _ (List.getElem_mem hk'))]
    rw [← ih]
    cases ins set es[k].f.toNat <;> cases ins set es[k].t.toNat <;> simp <;> omega

theorem gap_nn {es : List Edge} {fl : List Int} (set : List Bool) (hok : okTo es fl es.length) (k : Nat) (hk : k < es.length) : 0 ≤ gap set (es.getD k default) (fl.getD k 0) := by
  have := hok k hk
  unfold gap
  split
  · omega
  · split <;> omega

theorem gapS_nn {es : List Edge} {fl : List Int} (set : List Bool) (hok : okTo es fl es.length) : ∀ k, k ≤ es.length → 0 ≤ gapS set es fl k := by
  intro k
  induction k with
  | zero => intro _; simp [gapS]
  | succ k ih => intro hk; have := ih (by omega); have := gap_nn set hok k (by omega); simp only [gapS]; omega

theorem gapS_zero {es : List Edge} {fl : List Int} (set : List Bool) (hok : okTo es fl es.length) : ∀ k, k ≤ es.length → gapS set es fl k = 0 → ∀ j, j < k → gap set (es.getD j default) (fl.getD j 0) = 0 := by
  intro k
  induction k with
  | zero => intro _ _ j hj; omega
  | succ k ih =>
    intro hk h0 j hj
    have h1 := gapS_nn set hok k (by omega)
    have h2 := gap_nn set hok k (by omega)
    simp only [gapS] at h0
    by_cases e : j = k
    · subst e; omega
    · exact ih (by omega) (by omega) j (by omega)

theorem gapS_of_zero {es : List Edge} {fl : List Int} (set : List Bool) : ∀ k, (∀ j, j < k → gap set (es.getD j default) (fl.getD j 0) = 0) → gapS set es fl k = 0 := by
  intro k
  induction k with
  | zero => intro _; rfl
  | succ k ih => intro h; simp only [gapS, ih (fun j hj => h j (by omega)), h k (by omega)]; rfl

/-- A cut. -/
structure IsCut (n s t : Int) (set : List Bool) : Prop where
  len : (set.length : Int) = n
  src : ins set s.toNat = true
  snk : ins set t.toNat = false

/-- What flows over a cut is the flow's value. -/
theorem over_cut {n s t : Int} {es : List Edge} (hv : VNet n s t es) {fl : List Int} (hf : IsFlow n s t es fl) {set : List Bool} (hc : IsCut n s t set) : capS set es es.length - balE es fl s.toNat es.length = gapS set es fl es.length := by
  have hb := hv.bounds
  rw [← gap_sum hv set hc.len fl _ (Nat.le_refl _)]
  have := sumS_one set (fun u => balE es fl u es.length) s.toNat n.toNat (fun u hu hus hiu => by
    refine hf.bal u (by omega) (by omega) (fun e => ?_)
    have : u = t.toNat := by omega
    subst this
    rw [hc.snk] at hiu; cases hiu)
  rw [this, if_pos ⟨by omega, hc.src⟩]

/-- No flow has a value greater than the capacity of any cut. -/
theorem weak_duality {n s t : Int} {es : List Edge} (hv : VNet n s t es) {fl : List Int} (hf : IsFlow n s t es fl) {set : List Bool} (hc : IsCut n s t set) : balE es fl s.toNat es.length ≤ capS set es es.length := by
  have h1 := over_cut hv hf hc
  have h2 := gapS_nn set hf.ok _ (Nat.le_refl es.length)
  omega

/-- The set of the nodes that have a layer. -/
def setOf (level : List Int) : List Bool := level.map fun x => decide (0 ≤ x)
theorem ins_setOf (level : List Int) (v : Nat) : ins (setOf level) v = decide (0 ≤ lv level v) := by
  rcases Nat.lt_or_ge v level.length with h | h
  · rw [ins, getD_lt _ _ (by simpa [setOf] using h), lv_lt h]; simp [setOf]
  · rw [ins, getD_ge _ _ (by simpa [setOf] using h)]
    unfold lv; rw [getD_ge _ _ h]; rfl

/-- What the search has shown at its end: a flow and a cut of one value; all cuts of this capacity contain this one. -/
structure Found (n s t : Int) (es : List Edge) (fl : List Int) (set : List Bool) (value : Int) : Prop where
  flow : IsFlow n s t es fl
  val : balE es fl s.toNat es.length = value
  cut : IsCut n s t set
  cap : capS set es es.length = value
  least : ∀ D, IsCut n s t D → capS D es es.length = value → ∀ v, ins set v = true → ins D v = true

theorem RunOK.found {n s t : Int} {es : List Edge} (hv : VNet n s t es) {left : List Int} {value : Int} (H : RunOK s.toNat t.toNat es left value) {level : List Int} (L : LevelOK n.toNat s.toNat (outsN n.toNat es es.length) (toL es) left level) (ht : lv level t.toNat < 0) :
    Found n s t es (flowOf es left) (setOf level) value := by
  have hb := hv.bounds
  obtain ⟨hf, hval⟩ := H.flow hv
  have hN := netOK hv
  have hs0 := (L.zero s.toNat).2 rfl
  have hcut : IsCut n s t (setOf level) := ⟨by simp [setOf, L.len]; omega, by rw [ins_setOf]; simp; omega, by rw [ins_setOf]; simp; omega⟩
  have ends : ∀ i (hi : i < es.length), (2 * i ∈ (outsN n.toNat es es.length).getD es[i].f.toNat []) ∧ (toL es).getD (2 * i) 0 = es[i].t.toNat ∧ (2 * i + 1 ∈ (outsN n.toNat es es.length).getD es[i].t.toNat []) ∧ (toL es).getD (2 * i + 1) 0 = es[i].f.toNat := by
    intro i hi
    obtain ⟨g1, g2⟩ := pairs_get (fun e => e.t.toNat) (fun e => e.f.toNat) 0 es i hi
    have t0 : twin (2 * i) = 2 * i + 1 := by unfold twin; rw [if_pos (by omega)]
    have t1 : twin (2 * i + 1) = 2 * i := by unfold twin; rw [if_neg (by omega)]; omega
    exact ⟨(hN.out _ _).2 ⟨by omega, by rw [t0]; exact g2⟩, g1, (hN.out _ _).2 ⟨by omega, by rw [t1]; exact g1⟩, g2⟩
  have hgap : gapS (setOf level) es (flowOf es left) es.length = 0 := by
    refine gapS_of_zero _ _ fun i hi => ?_
    obtain ⟨o1, o2, o3, o4⟩ := ends i hi
    have hcap := flowOf_cap hv H i hi
    rw [getD_lt es default hi, flowOf_get es left i hi]
    unfold gap
    rw [ins_setOf, ins_setOf]
    have n1 := H.nn (2 * i)
    have n2 := H.nn (2 * i + 1)
    split
    · rename_i h
      simp only [decide_eq_true_eq, decide_eq_false_iff_not] at h
      by_cases hz : 0 < left.getD (2 * i) 0
      · have := L.clo _ h.1 _ o1 hz; rw [o2] at this; exact absurd this h.2
      · omega
    · split
      · rename_i h
        simp only [decide_eq_true_eq, decide_eq_false_iff_not] at h
        by_cases hz : 0 < left.getD (2 * i + 1) 0
        · have := L.clo _ h.2 _ o3 hz; rw [o4] at this; exact absurd this h.1
        · omega
      · rfl
  refine ⟨hf, hval, hcut, by have := over_cut hv hf hcut; omega, ?_⟩
  intro D hD hcapD
  have hg0 : gapS D es (flowOf es left) es.length = 0 := by have := over_cut hv hf hD; omega
  have hz := gapS_zero D hf.ok _ (Nat.le_refl _) hg0
  have key : ∀ (j : Nat) (v : Nat), lv level v = (j : Int) → ins D v = true := by
    intro j
    induction j with
    | zero => intro v hv0; have := (L.zero v).1 (by simpa using hv0); subst this; exact hD.src
    | succ j ih =>
      intro v hv0
      obtain ⟨u, k, h1, h2, h3, h4⟩ := L.pred v (by omega)
      have hu := ih u (by push_cast at hv0; omega)
      obtain ⟨hk1, hk2⟩ := (hN.out u k).1 h1
      have hi : k / 2 < es.length := by omega
      obtain ⟨o1, o2, o3, o4⟩ := ends (k / 2) hi
      have hcap := flowOf_cap hv H (k / 2) hi
      have hzz := hz (k / 2) hi
      rw [getD_lt es default hi, flowOf_get es left _ hi] at hzz
      unfold gap at hzz
      cases hDv : ins D v with
      | true => rfl
      | false =>
        exfalso
        rcases Nat.mod_two_eq_zero_or_one k with h0 | h0
        · have e1 : 2 * (k / 2) = k := by omega
          have e2 : twin k = 2 * (k / 2) + 1 := by unfold twin; rw [if_pos h0]; omega
          rw [e1] at o2 hcap hzz
          rw [e2, o4] at hk2
          rw [h2] at o2
          rw [hk2, ← o2, hu, hDv, if_pos ⟨rfl, rfl⟩] at hzz
          omega
        · have e1 : 2 * (k / 2) + 1 = k := by omega
          have e2 : twin k = 2 * (k / 2) := by unfold twin; rw [if_neg (by omega)]; omega
          rw [e1] at o4 hzz
          rw [e2, o2] at hk2
          rw [h2] at o4
          rw [hk2, ← o4, hu, hDv, if_neg (fun h => Bool.noConfusion h.1), if_pos ⟨rfl, rfl⟩] at hzz
          omega
  intro v hvi
  rw [ins_setOf] at hvi
  obtain ⟨j, hj⟩ := Int.eq_ofNat_of_zero_le (by simpa using hvi)
  exact key j v hj

end Go.Proofs.Ytkhbiknjkffpjaa
