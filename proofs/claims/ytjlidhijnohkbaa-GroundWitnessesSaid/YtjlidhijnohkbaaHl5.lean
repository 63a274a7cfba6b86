/-
  OWN WORK. The value language, fifth part: the computation of closed calls.
-/
import Derived.Test.YtjlidhijnohkbaaHl4
set_option linter.unusedSimpArgs false
set_option linter.unusedVariables false
section
namespace Go.HL

def CallF := FuncId → List HV → Option HV

/-- One operation, its guard having been met. -/
def evOp (F : CallF) (s : St) (i : Nat) (o : HOper) : Option St :=
  match o.op.map (ev s.sl) with
  | .call f xs => match F f (thawL allIds (fun i => aget i s.st) xs) with
    | some r => let u := unpack (s.nx + stride * i) r
      if (refFreeL xs || r.noRd) && decide (u.2.2 ≤ s.nx + stride * (i + 1)) && r.deep.isEmpty then some ((s.upd u.2.1).put o.dst u.1) else none
    | none => none
  | .callv (.fn f cap) xs => match F f (thawL allIds (fun i => aget i s.st) (xs ++ cap)) with
    | some r => let u := unpack (s.nx + stride * i) r
      if (refFreeL (xs ++ cap) || r.noRd) && decide (u.2.2 ≤ s.nx + stride * (i + 1)) && r.deep.isEmpty then some ((s.upd u.2.1).put o.dst u.1) else none
    | none => none
  | op => if topb (fun i => aget i s.st) op then (let r := topv (fun i => aget i s.st) (s.nx + stride * i) op; some ((s.upd r.2.1).put o.dst r.1)) else none

def evOps (F : CallF) (all : List HOper) : List HOper → Nat → St → Option St
  | [], _, s => some s
  | o :: r, i, s =>
    match o.guard with
    | none => match evOp F s i o with
      | some s' => evOps F all r (i + 1) s'
      | none => none
    | some (j, want) => match ((all[j]?).bind (·.dst)).map (fun d => aget d s.sl) with
      | some (.bool b) => if b = want then (match evOp F s i o with
        | some s' => evOps F all r (i + 1) s'
        | none => none) else evOps F all r (i + 1) (s.put o.dst (.tup []))
      | some (.tup []) => evOps F all r (i + 1) (s.put o.dst (.tup []))
      | _ => none

def DF (F : CallF) (f : FuncId) (args : List HV) (r : HV) : Prop := F f args = some r

theorem evOp_sound {F : CallF} {C : CallSpec} (hC : ∀ f args r K, F f args = some r → r.deep = [] → K r → C f args K) {s s' : St} {i : Nat} {o : HOper} {K : St → Prop} (h : evOp F s i o = some s') (hK : K s') : hop C s i o K := by
  unfold evOp at h
  refine Or.inl ?_
  unfold hop0
  split at h
  · rename_i f xs hop
    rw [hop]
    simp only
    split at h
    · rename_i r hr
      simp only at h
      split at h
      · rename_i hc
        simp only [Bool.and_eq_true, decide_eq_true_eq, List.isEmpty_iff] at hc
        cases h
        exact hC _ _ r _ hr hc.2 ⟨hc.1.1, hc.1.2, hK⟩
      · cases h
    · cases h
  · rename_i f cap xs hop
    rw [hop]
    simp only
    split at h
    · rename_i r hr
      simp only at h
      split at h
      · rename_i hc
        simp only [Bool.and_eq_true, decide_eq_true_eq, List.isEmpty_iff] at hc
        cases h
        exact hC _ _ r _ hr hc.2 ⟨hc.1.1, hc.1.2, hK⟩
      · cases h
    · cases h
  · rename_i op h1 h2
    split
    · rename_i f xs heq; exact absurd heq (h1 f xs)
    · rename_i f cap xs heq; exact absurd heq (h2 f cap xs)
    · split at h
      · rename_i hb
        cases h
        exact ⟨topb_ok hb, hK⟩
      · cases h

theorem evOps_sound {F : CallF} {C : CallSpec} (hC : ∀ f args r K, F f args = some r → r.deep = [] → K r → C f args K) {all : List HOper} {K : St → Prop} : ∀ {r : List HOper} {i : Nat} {s s' : St}, evOps F all r i s = some s' → K s' → hops C all r i K s := by
  intro r
  induction r with
  | nil => intro i s s' h hK; cases h; exact hK
  | cons o r ih =>
    intro i s s' h hK
    simp only [evOps] at h
    simp only [hops]
    split at h
    · rename_i hg
      rw [hg]
      simp only
      split at h
      · rename_i s1 h1
        exact evOp_sound hC h1 (ih h hK)
      · cases h
    · rename_i j want hg
      rw [hg]
      simp only
      split at h
      · rename_i b hb
        rw [hb]
        simp only
        split at h
        · rename_i hbw
          split at h
          · rename_i s1 h1
            exact ⟨fun _ => evOp_sound hC h1 (ih h hK), fun hne => absurd hbw hne⟩
          · cases h
        · rename_i hbw
          exact ⟨fun he => absurd he hbw, fun _ => ih h hK⟩
      · rename_i hb
        rw [hb]
        exact ih h hK
      · cases h

/-- With what it writes. -/
def evOpE (F : CallF) (s : St) (i : Nat) (o : HOper) : Option (List Upd × HV) :=
  match o.op.map (ev s.sl) with
  | .call f xs => match F f (thawL allIds (fun i => aget i s.st) xs) with
    | some r => let u := unpack (s.nx + stride * i) r
      if (refFreeL xs || r.noRd) && decide (u.2.2 ≤ s.nx + stride * (i + 1)) && r.deep.isEmpty then some (u.2.1, u.1) else none
    | none => none
  | .callv (.fn f cap) xs => match F f (thawL allIds (fun i => aget i s.st) (xs ++ cap)) with
    | some r => let u := unpack (s.nx + stride * i) r
      if (refFreeL (xs ++ cap) || r.noRd) && decide (u.2.2 ≤ s.nx + stride * (i + 1)) && r.deep.isEmpty then some (u.2.1, u.1) else none
    | none => none
  | op => if topb (fun i => aget i s.st) op then (let r := topv (fun i => aget i s.st) (s.nx + stride * i) op; some (r.2.1, r.1)) else none

def evOpsL (F : CallF) (masks : List Nat) (all : List HOper) : List HOper → Nat → DLog → St → Option St
  | [], _, _, s => some s
  | o :: r, i, log, s =>
    match o.guard with
    | none => match evOpE F s i o with
      | some (us, v) => if chkb masks all i o us s.S log then evOpsL F masks all r (i + 1) ((i, tgts us, opids o s.S) :: log) ((s.upd us).put o.dst v) else none
      | none => none
    | some (j, want) => match ((all[j]?).bind (·.dst)).map (fun d => aget d s.sl) with
      | some (.bool b) => if b = want then (match evOpE F s i o with
        | some (us, v) => if chkb masks all i o us s.S log then evOpsL F masks all r (i + 1) ((i, tgts us, opids o s.S) :: log) ((s.upd us).put o.dst v) else none
        | none => none) else if chkb masks all i o [] s.S log then evOpsL F masks all r (i + 1) ((i, [], opids o s.S) :: log) (s.put o.dst (.tup [])) else none
      | some (.tup []) => if chkb masks all i o [] s.S log then evOpsL F masks all r (i + 1) ((i, [], opids o s.S) :: log) (s.put o.dst (.tup [])) else none
      | _ => none

theorem evOpE_sound {F : CallF} {C : CallFn} (hC : ∀ f args r K, F f args = some r → r.deep = [] → K r → C f args K) {s : St} {us : List Upd} {v : HV} {i : Nat} {o : HOper} {K : List Upd → HV → Prop} (h : evOpE F s i o = some (us, v)) (hK : K us v) : hopE C s i o K := by
  unfold evOpE at h
  unfold hopE
  split at h
  · rename_i f xs hop
    rw [hop]
    simp only
    split at h
    · rename_i r hr
      simp only at h
      split at h
      · rename_i hc
        simp only [Bool.and_eq_true, decide_eq_true_eq, List.isEmpty_iff] at hc
        cases h
        exact hC _ _ r _ hr hc.2 ⟨hc.1.1, hc.1.2, hK⟩
      · cases h
    · cases h
  · rename_i f cap xs hop
    rw [hop]
    simp only
    split at h
    · rename_i r hr
      simp only at h
      split at h
      · rename_i hc
        simp only [Bool.and_eq_true, decide_eq_true_eq, List.isEmpty_iff] at hc
        cases h
        exact hC _ _ r _ hr hc.2 ⟨hc.1.1, hc.1.2, hK⟩
      · cases h
    · cases h
  · rename_i op h1 h2
    split
    · rename_i f xs heq; exact absurd heq (h1 f xs)
    · rename_i f cap xs heq; exact absurd heq (h2 f cap xs)
    · split at h
      · rename_i hb
        cases h
        exact ⟨topb_ok hb, hK⟩
      · cases h

theorem evOpsL_sound {F : CallF} {C : CallFn} (hC : ∀ f args r K, F f args = some r → r.deep = [] → K r → C f args K) {masks : List Nat} {all : List HOper} {K : St → Prop} : ∀ {r : List HOper} {i : Nat} {log : DLog} {s s' : St}, evOpsL F masks all r i log s = some s' → K s' → hopsL C masks all r i log K s := by
  intro r
  induction r with
  | nil => intro i log s s' h hK; cases h; exact hK
  | cons o r ih =>
    intro i log s s' h hK
    simp only [evOpsL] at h
    simp only [hopsL]
    split at h
    · rename_i hg
      rw [hg]
      simp only
      split at h
      · rename_i us v h1
        split at h
        · rename_i hc
          exact evOpE_sound hC h1 ⟨hc, ih h hK⟩
        · cases h
      · cases h
    · rename_i j want hg
      rw [hg]
      simp only
      split at h
      · rename_i b hb
        rw [hb]
        simp only
        split at h
        · rename_i hbw
          split at h
          · rename_i us v h1
            split at h
            · rename_i hc
              exact ⟨fun _ => evOpE_sound hC h1 ⟨hc, ih h hK⟩, fun hne => absurd hbw hne⟩
            · cases h
          · cases h
        · rename_i hbw
          split at h
          · rename_i hc
            exact ⟨fun he => absurd he hbw, fun _ => ⟨hc, ih h hK⟩⟩
          · cases h
      · rename_i hb
        rw [hb]
        simp only
        split at h
        · rename_i hc
          exact ⟨hc, ih h hK⟩
        · cases h
      · cases h

def sorted : List (Nat × HV) → Bool
  | [] => true
  | (k, _) :: r => (match r with | [] => true | (k2, _) :: _ => decide (k < k2)) && sorted r
def dropDead : List (Nat × HV) → List (Nat × HV)
  | [] => []
  | (k, v) :: r => match v with | .dead => dropDead r | v => (k, v) :: dropDead r
def St.gc (s : St) : St := if sorted s.st then { s with st := dropDead s.st } else s
theorem sorted_out {l : List (Nat × HV)} (h : sorted l = true) {k : Nat} (hk : ∀ p ∈ l, k < p.1 ) : aget k l = .dead := by
  induction l with
  | nil => rfl
  | cons p r ih =>
    obtain ⟨k2, v⟩ := p
    simp only [sorted, Bool.and_eq_true] at h
    have := hk (k2, v) (by simp)
    simp only at this
    simp only [aget]
    rw [if_neg (by omega)]
    exact ih h.2 (fun p hp => hk p (List.mem_cons_of_mem _ hp))
theorem sorted_lt {k : Nat} {v : HV} {r : List (Nat × HV)} (h : sorted ((k, v) :: r) = true) : ∀ p ∈ r, k < p.1 := by
  induction r generalizing k v with
  | nil => simp
  | cons q r ih =>
    obtain ⟨k2, v2⟩ := q
    simp only [sorted, Bool.and_eq_true, decide_eq_true_eq] at h
    intro p hp
    rcases List.mem_cons.1 hp with rfl | hp
    · exact h.1
    · have := ih (k := k2) (v := v2) (by simp only [sorted, Bool.and_eq_true]; exact h.2) p hp
      omega
theorem aget_dropDead {l : List (Nat × HV)} (h : sorted l = true) (t : Nat) : aget t (dropDead l) = aget t l := by
  induction l with
  | nil => rfl
  | cons p r ih =>
    obtain ⟨k, v⟩ := p
    have hr : sorted r = true := by simp only [sorted, Bool.and_eq_true] at h; exact h.2
    have hlt := sorted_lt h
    have hd : v = .dead ∨ dropDead ((k, v) :: r) = (k, v) :: dropDead r := by cases v <;> simp [dropDead]
    rcases hd with rfl | hd
    · simp only [dropDead, aget]
      rw [ih hr]
      split
      · rename_i hk; subst hk; exact sorted_out hr hlt
      · rfl
    · rw [hd]; simp only [aget, ih hr]
theorem Weak.gc (s : St) : Weak s s.gc := by
  unfold St.gc
  split
  · rename_i h
    intro E a w ⟨loc, fp, hr⟩
    have hM : (St.M { s with st := dropDead s.st }) = s.M := by funext t; exact aget_dropDead h t
    refine ⟨loc, fp, ?_⟩
    rw [hM]
    exact hr
  · exact Weak.refl s

/-- A row of rows that lies in something has no name: it may only be read. -/
def ownB : HV → Bool
  | .osl .. => true
  | .optr _ => true
  | _ => false
def kidsB (f : HV → Bool) : HV → Bool
  | .osl _ _ cs => cs.any f
  | .optr cs => cs.any f
  | _ => false
def St.af (s : St) : St := match s.st.find? (fun p => kidsB (kidsB ownB) p.2) with
  | some p => freeze p.1 s
  | none => s
theorem St.af_weak (s : St) : Weak s s.af := by
  unfold St.af
  split
  · exact Weak.freeze _ s
  · exact Weak.refl s

def isRet : HCode → Bool
  | .ret => true
  | _ => false
/-- Ahead of a return: boxes with a row in them are opened. -/
def ubAll : List (Nat × HV) → St → St
  | [], s => s
  | (id, _) :: r, s => ubAll r (unbox id s)
theorem ubAll_weak : ∀ (l : List (Nat × HV)) (s : St), Weak s (ubAll l s)
  | [], s => Weak.refl s
  | (id, _) :: r, s => (Weak.unbox id s).trans (ubAll_weak r _)
def St.ub (b : HCode) (s : St) : St := if isRet b then ubAll s.st s else s
theorem St.ub_weak (b : HCode) (s : St) : Weak s (s.ub b) := by
  unfold St.ub; split
  · exact ubAll_weak _ _
  · exact Weak.refl s
def evC (F : CallF) : Nat → HCode → St → Option (HE × St)
  | 0, _, _ => none
  | _ + 1, .skip, s => some (.normal, s)
  | _ + 1, .region none ops, s => match evOps F ops ops 0 s with
    | some s1 => some (.normal, { s1 with nx := s1.nx + stride * ops.length })
    | none => none
  | _ + 1, .region (some m) ops, s => if statOK m ops then (match (if noSusp m ops then evOps F ops ops 0 s else evOpsL F m ops ops 0 [] s) with
    | some s1 => some (.normal, { s1 with nx := s1.nx + stride * ops.length })
    | none => none) else none
  | n + 1, .seq a b, s => match evC F n a s with
    | some (.normal, s1) => evC F n b (s1.af.ub b)
    | r => r
  | n + 1, .cond c a b, s => match ev s.sl c with
    | .bool true => evC F n a s
    | .bool false => evC F n b s
    | _ => none
  | n + 1, .block id b, s => match evC F n b s with
    | some (.exit i, s1) => if i = id then some (.normal, s1) else some (.exit i, s1)
    | r => r
  | n + 1, .loop b, s => match evC F n b s.gc with
    | some (.normal, s1) => evC F n (.loop b) s1
    | r => r
  | _ + 1, .exit id, s => some (.exit id, s)
  | _ + 1, .ret, s => some (.ret, s)
  | _ + 1, .bad, _ => none

theorem exists_min {p : Nat → Prop} (h : ∃ m, p m) : ∃ m, p m ∧ ∀ k, p k → m ≤ k := by
  obtain ⟨m, hm⟩ := h
  induction m using Nat.strongRecOn with
  | _ m ih =>
    by_cases h : ∃ k, k < m ∧ p k
    · obtain ⟨k, h1, h2⟩ := h; exact ih k h1 h2
    · exact ⟨m, hm, fun k hk => by
        rcases Nat.lt_or_ge k m with h1 | h1
        · exact absurd ⟨k, h1, hk⟩ h
        · exact h1⟩

open Classical in
theorem evC_sound {P : Program} {F : CallF} (hC : ∀ f args r, F f args = some r → HT P f args (· = r)) : ∀ (n : Nat) (c : HCode) (s : St) (e : HE) (s' : St) (Q : HE → St → Prop), evC F n c s = some (e, s') → Q e s' → hcode P c Q s := by
  have hC1 : ∀ f args r (K : HV → Prop), F f args = some r → r.deep = [] → K r → HT P f args K := fun f args r K h _ hk => (hC f args r h).mono fun r' e => by subst e; exact hk
  have hC2 : ∀ f args r (K : HV → Prop), F f args = some r → r.deep = [] → K r → CS P (DF F) f args K := fun f args r K h hd hk => ⟨(hC f args r h).mono fun r' e => by subst e; exact h, ⟨r, h, hd⟩, fun r' h' _ => by
    have : some r = some r' := h.symm.trans h'
    cases this; exact hk⟩
  intro n
  induction n using Nat.strongRecOn with
  | _ n IH =>
  cases n with
  | zero => intro c s e s' Q h; cases h
  | succ n =>
    have ih := IH n (Nat.lt_succ_self n)
    intro c s e s' Q h hQ
    cases c with
    | skip => cases h; exact hQ
    | region inc ops =>
      cases inc with
      | none =>
        simp only [evC] at h
        split at h
        · rename_i s1 h1
          cases h
          exact hregW_one (evOps_sound hC1 h1 hQ)
        · cases h
      | some m =>
        simp only [evC] at h
        split at h
        · rename_i hst
          split at h
          · rename_i s1 h1
            cases h
            refine ⟨hst, fun _ => .inl ⟨DF F, ?_⟩⟩
            rw [List.range_eq_range']
            split at h1
            · rename_i hns
              have h2 : hops (CS P (DF F)) ops ops 0 (fun s1 => Q .normal { s1 with nx := s1.nx + stride * ops.length }) s := evOps_sound hC2 h1 hQ
              exact hops_dr hns ops 0 [] s rfl rfl (by simp) h2
            · have h2 : hopsL (CS P (DF F)) m ops ops 0 [] (fun s1 => Q .normal { s1 with nx := s1.nx + stride * ops.length }) s := evOpsL_sound hC2 h1 hQ
              exact hopsL_dr ops 0 [] s rfl rfl h2
          · cases h
        · cases h
    | seq a b =>
      simp only [evC] at h
      split at h
      · rename_i s1 h1
        exact ih a s .normal s1 _ h1 ⟨s1.af.ub b, (St.af_weak s1).trans (St.ub_weak b _), ih b (s1.af.ub b) e s' Q h hQ⟩
      · rename_i r hr
        refine ih a s e s' _ h ?_
        cases e with
        | normal => exact absurd h (hr s')
        | exit i => exact hQ
        | ret => exact hQ
    | cond c a b =>
      simp only [evC] at h
      simp only [hcode]
      split at h
      · rename_i hb
        rw [hb]
        exact ⟨fun _ => ⟨s, Weak.refl s, ih a s e s' Q h hQ⟩, fun h => by cases h⟩
      · rename_i hb
        rw [hb]
        exact ⟨fun h => Bool.noConfusion h, fun _ => ⟨s, Weak.refl s, ih b s e s' Q h hQ⟩⟩
      · cases h
    | block id b =>
      simp only [evC] at h
      split at h
      · rename_i i s1 h1
        refine ih b s (.exit i) s1 _ h1 ?_
        simp only
        split at h
        · rename_i hi; cases h; rw [if_pos hi]; exact hQ
        · rename_i hi; cases h; rw [if_neg hi]; exact hQ
      · rename_i r hr
        refine ih b s e s' _ h ?_
        cases e with
        | normal => exact hQ
        | exit i => exact absurd h (hr i s')
        | ret => exact hQ
    | loop b =>
      let I : St → Prop := fun t => ∃ m, m ≤ n + 1 ∧ evC F m (.loop b) t = some (e, s')
      let μ : St → Nat := fun t => if ht : ∃ m, evC F m (.loop b) t = some (e, s') then Classical.choose (exists_min ht) else 0
      refine ⟨I, μ, ⟨s, Weak.refl s, n + 1, Nat.le_refl _, h⟩, ?_⟩
      intro t ⟨m, hm, ht⟩
      have hex : ∃ m, evC F m (.loop b) t = some (e, s') := ⟨m, ht⟩
      have hspec := Classical.choose_spec (exists_min hex)
      have hmin := hspec.2 m ht
      have hfind := hspec.1
      have hμ : μ t = Classical.choose (exists_min hex) := dif_pos hex
      rw [hμ]
      clear hspec
      generalize Classical.choose (exists_min hex) = q at hmin hfind
      cases q with
      | zero => cases hfind
      | succ q =>
        refine ⟨t.gc, Weak.gc t, ?_⟩
        have hq : q ≤ n := by omega
        have mono : ∀ (Q' : HE → St → Prop) e1 s1, evC F q b t.gc = some (e1, s1) → Q' e1 s1 → hcode P b Q' t.gc := fun Q' e1 s1 h1 h2 => IH q (by omega) b t.gc e1 s1 Q' h1 h2
        simp only [evC] at hfind
        split at hfind
        · rename_i s1 h1
          refine mono _ .normal s1 h1 ⟨s1, Weak.refl s1, ⟨q, by omega, hfind⟩, ?_⟩
          have hex1 : ∃ m, evC F m (.loop b) s1 = some (e, s') := ⟨q, hfind⟩
          have h5 : μ s1 = Classical.choose (exists_min hex1) := dif_pos hex1
          rw [h5]
          have := (Classical.choose_spec (exists_min hex1)).2 q hfind
          omega
        · rename_i r hr
          refine mono _ e s' hfind ?_
          cases e with
          | normal => exact absurd hfind (hr s')
          | exit i => exact hQ
          | ret => exact hQ
    | exit id => cases h; exact hQ
    | ret => cases h; exact hQ
    | bad => cases h

end Go.HL
end

section
namespace Go.HL
abbrev Tbl := List (FuncId × HCode × List Nat × Nat)
def lookT : Tbl → FuncId → Option (HCode × List Nat × Nat)
  | [], _ => none
  | (g, x) :: r, f => if g = f then some x else lookT r f

def takeDb (L : Lk) : List HV → Bool
  | [] => true
  | v :: r => (match v with
    | .agg _ => false
    | .tup _ => false
    | .fn _ _ => false
    | .dead => true
    | v => takeCb L v) && takeDb (L.upd (takeD L v).2.1) r
theorem takeDb_ok {L : Lk} {l : List HV} (h : takeDb L l = true) : (takeDL L l).2.2 := by
  induction l generalizing L with
  | nil => simp [takeDL]
  | cons v r ih =>
    simp only [takeDb, Bool.and_eq_true] at h
    simp only [takeDL]
    refine ⟨?_, ih h.2⟩
    have h1 := h.1
    cases v with
    | agg _ => cases h1
    | tup _ => cases h1
    | fn _ _ => cases h1
    | dead => simp [takeD]
    | _ => simp only [takeD]; exact takeCb_ok h1

def tblOK (P : Program) (tbl : Tbl) : Prop := ∀ e ∈ tbl, funCode P e.1 = some e.2
theorem tblOK.nil {P : Program} : tblOK P [] := by intro e h; cases h
theorem tblOK.cons {P : Program} {f c rs T} {tbl : Tbl} (h : funCode P f = some (c, rs, T)) (h2 : tblOK P tbl) : tblOK P ((f, c, rs, T) :: tbl) := by
  intro e he
  rcases List.mem_cons.1 he with rfl | he
  · exact h
  · exact h2 e he
theorem lookT_ok {P : Program} {tbl : Tbl} (h : tblOK P tbl) {f : FuncId} {x} (hx : lookT tbl f = some x) : funCode P f = some x := by
  induction tbl with
  | nil => cases hx
  | cons e r ih =>
    obtain ⟨g, y⟩ := e
    simp only [lookT] at hx
    split at hx
    · rename_i hg; cases hx; subst hg; exact h (g, x) (by simp)
    · exact ih (fun e he => h e (List.mem_cons_of_mem _ he)) hx

mutual
def HV.eqb : HV → HV → Bool
  | .int k n, .int k' n' => decide (k = k') && decide (n = n')
  | .bool b, .bool b' => b == b'
  | .nils, .nils => true
  | .nilp, .nilp => true
  | .nilf, .nilf => true
  | .sl n cs, .sl n' cs' => decide (n = n') && eqbL cs cs'
  | .ptr cs o, .ptr cs' o' => decide (o = o') && eqbL cs cs'
  | .agg cs, .agg cs' => eqbL cs cs'
  | .tup cs, .tup cs' => eqbL cs cs'
  | .fn f cs, .fn f' cs' => decide (f = f') && eqbL cs cs'
  | _, _ => false
def eqbL : List HV → List HV → Bool
  | [], [] => true
  | a :: r, b :: q => HV.eqb a b && eqbL r q
  | _, _ => false
end
mutual
theorem HV.eqb_ok : ∀ {a b : HV}, HV.eqb a b = true → a = b := by
  intro a b h
  unfold HV.eqb at h
  split at h
  · simp at h; rw [h.1, h.2]
  · simp at h; rw [h]
  · rfl
  · rfl
  · rfl
  · simp only [Bool.and_eq_true, decide_eq_true_eq] at h; rw [h.1, eqbL_ok h.2]
  · simp only [Bool.and_eq_true, decide_eq_true_eq] at h; rw [h.1, eqbL_ok h.2]
  · rw [eqbL_ok h]
  · rw [eqbL_ok h]
  · simp only [Bool.and_eq_true, decide_eq_true_eq] at h; rw [h.1, eqbL_ok h.2]
  · cases h
theorem eqbL_ok : ∀ {a b : List HV}, eqbL a b = true → a = b := by
  intro a b h
  cases a with
  | nil => cases b with
    | nil => rfl
    | cons _ _ => simp [eqbL] at h
  | cons x r => cases b with
    | nil => simp [eqbL] at h
    | cons y q =>
      simp only [eqbL, Bool.and_eq_true] at h
      rw [HV.eqb_ok h.1, eqbL_ok h.2]
end
/-- What is known of calls. -/
abbrev Memo := List (FuncId × List HV × HV)
def lookM : Memo → CallF
  | [], _, _ => none
  | (g, a, v) :: r, f, args => if g = f then (if eqbL a args then some v else lookM r f args) else lookM r f args
def memoOK (P : Program) (m : Memo) : Prop := ∀ e ∈ m, HT P e.1 e.2.1 (· = e.2.2)
theorem memoOK.nil {P : Program} : memoOK P [] := by intro e h; cases h
theorem memoOK.cons {P : Program} {f : FuncId} {a : List HV} {v : HV} {m : Memo} (h : HT P f a (· = v)) (h2 : memoOK P m) : memoOK P ((f, a, v) :: m) := by
  intro e he
  rcases List.mem_cons.1 he with rfl | he
  · exact h
  · exact h2 e he
theorem lookM_ok {P : Program} {m : Memo} (h : memoOK P m) {f : FuncId} {args : List HV} {r : HV} (hx : lookM m f args = some r) : HT P f args (· = r) := by
  induction m with
  | nil => cases hx
  | cons e q ih =>
    obtain ⟨g, a, v⟩ := e
    simp only [lookM] at hx
    split at hx
    · rename_i hg
      split at hx
      · rename_i ha
        cases hx
        subst hg
        obtain rfl := eqbL_ok ha
        exact h (g, a, _) (by simp)
      · exact ih (fun e he => h e (List.mem_cons_of_mem _ he)) hx
    · exact ih (fun e he => h e (List.mem_cons_of_mem _ he)) hx
/-- A call, with what is known. -/
def evM (m : Memo) (tbl : Tbl) (n : Nat) : Nat → CallF
  | 0 => lookM m
  | d + 1 => fun f args => match lookM m f args with
    | some r => some r
    | none => match lookT tbl f with
      | none => none
      | some (c, rs, T) => if args.length ≤ T then (match evC (evM m tbl n d) n c ⟨argSlots 0 args, [], 0⟩ with
        | some (e, s) => (match e with
          | .exit _ => none
          | _ => if takeDb s.M (rs.map fun t => aget t s.sl) then some (tupOf (takeDL s.M (rs.map fun t => aget t s.sl)).1) else none)
        | none => none) else none
theorem evM_sound {P : Program} (hm : P.follows .mixedOrders = true) {m : Memo} (hmm : memoOK P m) {tbl : Tbl} (ht : tblOK P tbl) (n : Nat) : ∀ (d : Nat) (f : FuncId) (args : List HV) (r : HV), evM m tbl n d f args = some r → HT P f args (· = r) := by
  intro d
  induction d with
  | zero => intro f args r h; exact lookM_ok hmm h
  | succ d ih =>
    intro f args r h
    simp only [evM] at h
    split at h
    · rename_i r1 hr1; cases h; exact lookM_ok hmm hr1
    ·
      split at h
      · cases h
      · rename_i c rs T hc
        split at h
        · rename_i hl
          split at h
          · rename_i e s he
            refine HT.of hm (lookT_ok ht hc) hl ?_
            refine hx_mk (Weak.refl _) ?_
            refine evC_sound ih n c _ e s _ he ?_
            show finish rs (· = r) e s
            unfold finish
            split at h
            · cases h
            · rename_i hne
              split at h
              · rename_i hb
                cases h
                cases e with
                | exit i => exact absurd rfl (hne i)
                | normal => exact ⟨takeDb_ok hb, rfl⟩
                | ret => exact ⟨takeDb_ok hb, rfl⟩
              · cases h
          · cases h
        · cases h

end Go.HL
end

section
namespace Go.HL
open Go.RowKit

def Eqv (s s' : St) : Prop := s.S = s'.S ∧ s.M = s'.M ∧ s.nx = s'.nx
theorem Eqv.refl (s : St) : Eqv s s := ⟨rfl, rfl, rfl⟩
theorem Eqv.symm {s s' : St} (h : Eqv s s') : Eqv s' s := ⟨h.1.symm, h.2.1.symm, h.2.2.symm⟩
theorem Eqv.upd {s s' : St} (h : Eqv s s') (us : List Upd) (d : Option Nat) (v : HV) : Eqv ((s.upd us).put d v) ((s'.upd us).put d v) := by
  refine ⟨?_, ?_, ?_⟩
  · rw [St.put_S, St.put_S, St.upd_S, St.upd_S, h.1]
  · rw [St.put_M, St.put_M, St.upd_M, St.upd_M, h.2.1]
  · rw [St.put_nx, St.put_nx, St.upd_nx, St.upd_nx, h.2.2]
theorem Eqv.put {s s' : St} (h : Eqv s s') (d : Option Nat) (v : HV) : Eqv (s.put d v) (s'.put d v) := h.upd [] d v
theorem Eqv.weak {s s' s2 : St} (h : Eqv s s') (hw : Weak s s2) : Weak s' s2 := by
  intro E a w hr
  refine hw E a w ?_
  obtain ⟨h1, h2, h3⟩ := h
  unfold SRel at *
  rw [h1, h2, h3]
  exact hr

theorem hop_eqv {C : CallSpec} (hC : CMono C) {s s' : St} {i : Nat} {o : HOper} {K K' : St → Prop} (he : Eqv s s') (hK : ∀ t t', Eqv t t' → K t → K' t') (h : hop C s i o K) : hop C s' i o K' := by
  rcases h with h | h
  · refine .inl ?_
    unfold hop0 at *
    have e1 : ev s'.sl = ev s.sl := by rw [ev_evL, ev_evL, he.1]
    have e2 : (fun i => aget i s'.st) = fun i => aget i s.st := he.2.1.symm
    rw [e1, e2, ← he.2.2]
    split at h
    · exact hC.ap _ _ _ _ h fun r hr => ⟨hr.1, hr.2.1, hK _ _ (he.upd _ _ _) hr.2.2⟩
    · exact hC.ap _ _ _ _ h fun r hr => ⟨hr.1, hr.2.1, hK _ _ (he.upd _ _ _) hr.2.2⟩
    · exact ⟨h.1, hK _ _ (he.upd _ _ _) h.2⟩
  · exact .inr (hC.eqv _ _ _ _ _ _ he.1 he.2.1 he.2.2 (hC.sem _ _ _ _ _ _ h fun t ht => hK _ _ (Eqv.refl t) ht))
theorem hops_eqv {C : CallSpec} (hC : CMono C) {all : List HOper} {K : St → Prop} (hK : ∀ s s', Eqv s s' → K s → K s') : ∀ {r : List HOper} {i : Nat} {s s' : St}, Eqv s s' → hops C all r i K s → hops C all r i K s' := by
  intro r
  induction r with
  | nil => intro i s s' he h; exact hK _ _ he h
  | cons o r ih =>
    intro i s s' he h
    have ed : (fun d => aget d s'.sl) = fun d => aget d s.sl := he.1.symm
    simp only [hops] at h ⊢
    rw [ed]
    split at h
    · exact hop_eqv hC he (fun t t' ht hh => ih ht hh) h
    · split at h
      · exact ⟨fun hb => hop_eqv hC he (fun t t' ht hh => ih ht hh) (h.1 hb), fun hb => ih (he.put o.dst (.tup [])) (h.2 hb)⟩
      · exact ih (he.put o.dst (.tup [])) h
      · exact h

def plainK : List HI → Bool
  | [] => true
  | .o .. :: _ => false
  | .c _ :: k => plainK k
  | .b _ :: k => plainK k
  | .l .. :: k => plainK k

theorem finish_eqv {rs : List Nat} {K : HV → Prop} {e : HE} {s s' : St} (he : Eqv s s') (h : finish rs K e s) : finish rs K e s' := by
  have e1 : ∀ r, aget r s'.sl = aget r s.sl := fun r => congrFun he.1.symm r
  have e2 : (rs.map fun r => aget r s'.sl) = rs.map fun r => aget r s.sl := by simp only [e1]
  unfold finish at *
  cases e with
  | normal => simp only at h ⊢; rw [e2, ← he.2.1]; exact h
  | ret => simp only at h ⊢; rw [e2, ← he.2.1]; exact h
  | exit i => exact h
theorem hk_eqv {P : Program} {rs : List Nat} {K : HV → Prop} {k : List HI} (hp : plainK k = true) : ∀ {e : HE} {s s' : St}, Eqv s s' → hk P k (finish rs K) e s → hk P k (finish rs K) e s' := by
  induction k with
  | nil => intro e s s' he h; exact finish_eqv he h
  | cons a k ih =>
    intro e s s' he h
    cases a with
    | c x =>
      cases e with
      | normal => obtain ⟨s1, hw, h1⟩ := h; exact ⟨s1, he.weak hw, h1⟩
      | exit i => exact ih hp he h
      | ret => exact ih hp he h
    | b id =>
      cases e with
      | normal => exact ih hp he h
      | exit i =>
        simp only [hk] at h ⊢
        split
        · rename_i hi; rw [if_pos hi] at h; exact ih hp he h
        · rename_i hi; rw [if_neg hi] at h; exact ih hp he h
      | ret => exact ih hp he h
    | o => cases hp
    | l I μ m =>
      cases e with
      | normal => obtain ⟨s1, hw, h1⟩ := h; exact ⟨s1, he.weak hw, h1⟩
      | exit i => exact ih hp he h
      | ret => exact ih hp he h

section
variable {P : Program} {C : CallSpec} {all r : List HOper} {i : Nat} {k : List HI} {rs : List Nat} {K : HV → Prop}
theorem hx_eqv (hC : CMono C) (hp : plainK k = true) {s s' : St} (he : Eqv s s') (h : hx P (.o C all r i :: k) (finish rs K) s) : hx P (.o C all r i :: k) (finish rs K) s' := by
  unfold hx hk at *
  exact hops_eqv hC (fun a b hab hh => hk_eqv hp (s := { a with nx := a.nx + stride * all.length }) (s' := { b with nx := b.nx + stride * all.length }) ⟨hab.1, hab.2.1, congrArg (fun n => n + stride * all.length) hab.2.2⟩ hh) he h

def upF (sl st : List (Nat × HV)) : List Upd → List (Nat × HV) × List (Nat × HV)
  | [] => (sl, st)
  | .put id t :: r => upF sl ((id, t) :: st) r
  | .kill id len :: r => upF (sl.map fun p => (p.1, p.2.kill id len)) st r
def upS (d : Option Nat) (v : HV) (x : List (Nat × HV) × List (Nat × HV)) : List (Nat × HV) × List (Nat × HV) :=
  match d with
  | none => x
  | some d => ((d, v) :: x.1, x.2)
theorem aget_cons (t d : Nat) (v : HV) (l : List (Nat × HV)) : aget t ((d, v) :: l) = aget t (aput d v l) := by rw [aget_aput]; rfl
theorem upF_eqv (us : List Upd) : ∀ (sl st : List (Nat × HV)) (nx : Nat) (s : St), Eqv s ⟨sl, st, nx⟩ → Eqv (s.upd us) ⟨(upF sl st us).1, (upF sl st us).2, nx⟩ := by
  induction us with
  | nil => intro sl st nx s h; exact h
  | cons u us ih =>
    intro sl st nx s h
    cases u with
    | put id t =>
      refine ih sl ((id, t) :: st) nx _ ⟨h.1, ?_, h.2.2⟩
      funext j
      have : aget j s.st = aget j st := congrFun h.2.1 j
      show aget j (aput id t s.st) = _
      rw [aget_aput]
      show _ = aget j ((id, t) :: st)
      simp only [aget, this]
    | kill id len =>
      refine ih _ st nx _ ⟨?_, h.2.1, h.2.2⟩
      funext j
      have : aget j s.sl = aget j sl := congrFun h.1 j
      show aget j (s.sl.map _) = aget j (sl.map _)
      rw [aget_map_kill, aget_map_kill, this]
theorem upS_eqv {d : Option Nat} {v : HV} {us : List Upd} {sl st sl' st' : List (Nat × HV)} {nx : Nat} (h : upS d v (upF sl st us) = (sl', st')) : Eqv ⟨sl', st', nx⟩ ((St.upd ⟨sl, st, nx⟩ us).put d v) := by
  have h1 := upF_eqv us sl st nx ⟨sl, st, nx⟩ (Eqv.refl _)
  cases d with
  | none =>
    simp only [upS] at h
    rw [h] at h1
    exact h1.symm
  | some d =>
    simp only [upS, Prod.mk.injEq] at h
    obtain ⟨rfl, rfl⟩ := h
    refine Eqv.symm ⟨?_, ?_, ?_⟩
    · rw [St.put_S]
      funext t
      have := congrFun h1.1 t
      show (if some d = some t then v else _) = aget t ((d, v) :: _)
      simp only [Option.some.injEq, aget]
      split
      · rfl
      · exact this
    · rw [St.put_M]; exact h1.2.1
    · rw [St.put_nx]; exact h1.2.2

variable {sl sl' st st' : List (Nat × HV)} {nx : Nat} {d : Option Nat}
/-- One operation, in general. -/
theorem F_op (hC : CMono C) (hp : plainK k = true) {op : HOp HX} {op' : HOp HV} {v : HV} {us : List Upd} {side : Prop} (hnc : op.isCall = false) (ho : op.map (ev sl) = op') (h0 : topv (fun j => aget j st) (nx + stride * i) op' = (v, us, side)) (hs : side)
    (hu : upS d v (upF sl st us) = (sl', st')) (h : hx P (.o C all r (i + 1) :: k) (finish rs K) ⟨sl', st', nx⟩) : hx P (.o C all (⟨d, op, none⟩ :: r) i :: k) (finish rs K) ⟨sl, st, nx⟩ := by
  refine hx_op hnc ?_
  subst ho
  have e : (fun j => aget j st) = St.M ⟨sl, st, nx⟩ := rfl
  rw [e] at h0
  simp only
  rw [h0]
  exact ⟨hs, hx_eqv hC hp (upS_eqv hu) h⟩

class Mono (C : CallSpec) : Prop where
  mono : CMono C
instance : Mono (HS P) := ⟨HT.cmono P⟩
instance {D : FuncId → List HV → HV → Prop} : Mono (CS P D) := ⟨CS.cmono P D⟩
class Plain (k : List HI) : Prop where
  plain : plainK k = true
instance : Plain [] := ⟨rfl⟩
instance {x : HCode} {k : List HI} [h : Plain k] : Plain (.c x :: k) := ⟨h.plain⟩
instance {id : Nat} {k : List HI} [h : Plain k] : Plain (.b id :: k) := ⟨h.plain⟩
instance {I : St → Prop} {μ : St → Nat} {m : Nat} {k : List HI} [h : Plain k] : Plain (.l I μ m :: k) := ⟨h.plain⟩
class Ok (C : CallSpec) (k : List HI) : Prop where
  mono : CMono C
  plain : plainK k = true
instance [h : Mono C] [h2 : Plain k] : Ok C k := ⟨h.mono, h2.plain⟩
theorem eI {v : HV} {k : IntKind} {n : Int} (h : v = .int k n) : v = .int k n := h
theorem eB {v : HV} {b : Bool} (h : v = .bool b) : v = .bool b := h
theorem eR {v : HV} {id : Nat} {p : List Nat} {sz off n : Nat} (h : v = .ref id p sz off n) : v = .ref id p sz off n := h
theorem eS {v : HV} {n : Nat} {cs : List HV} (h : v = .sl n cs) : v = .sl n cs := h
theorem eP {v : HV} {id : Nat} {p : List Nat} {off : Nat} (h : v = .pref id p off) : v = .pref id p off := h
theorem eQ {v : HV} {cs : List HV} {off : Nat} (h : v = .ptr cs off) : v = .ptr cs off := h
theorem eT {v : HV} {cs : List HV} (h : v = .tup cs) : v = .tup cs := h
theorem eA {v : HV} {cs : List HV} (h : v = .agg cs) : v = .agg cs := h
theorem eN {v : HV} (h : v = .nils) : v = .nils := h
theorem eF {v : HV} {f : FuncId} {cs : List HV} (h : v = .fn f cs) : v = .fn f cs := h
theorem eO {v : HV} {sz n : Nat} {cs : List HV} (h : v = .osl sz n cs) : v = .osl sz n cs := h
theorem eW {v : HV} {cs : List HV} (h : v = .optr cs) : v = .optr cs := h
theorem eX {v : HV} {s : ByteArray} (h : v = .str s) : v = .str s := h
theorem eD {v : HV} (h : v = .dead) : v = .dead := h
theorem zT0 {p : Prop} (h : p := by first | exact eI rfl | exact eB rfl | exact eR rfl | exact eS rfl | exact eP rfl | exact eT rfl | exact eA rfl | exact eN rfl | exact eQ rfl | exact eF rfl | exact eD rfl) : p := h
theorem zT1 {p : Prop} (h : p := by (try simp only [go_sem, reduceIte, Nat.reduceEqDiff, Nat.reduceAdd, Nat.reduceMul]); try rfl) : p := h
theorem zT4 {p : Prop} (h : p := by simp only [unpack, unpackL, List.append_nil, List.nil_append, List.cons_append, stride, Nat.reduceAdd, Nat.reduceMul, Nat.zero_add]; try rfl) : p := h
theorem zT5 {p : Prop} (h : p := by simp only [takeDL, takeD, takeC, aget, Lk.upd, if_true, if_false, reduceIte, Nat.reduceEqDiff, List.append_nil, List.nil_append]; try rfl) : p := h
theorem zT6 {p : Prop} (h : p := by first | exact ltT (by omega) | exact ltF (by omega) | rfl) : p := h
theorem zT7 {p : Prop} (h : p := by first | trivial | (refine ⟨?_, ?_⟩ <;> trivial) | (simp only [and_true, true_and]; done)) : p := h
theorem zT9 {p : Prop} (h : p := by (try simp (disch := omega) only [aget, go_sem, reduceIte, Nat.reduceEqDiff, Nat.reduceAdd, Nat.reduceMul]); try rfl) : p := h
theorem zT11 {p : Prop} (h : p := by (try simp (disch := omega) only [go_sem, Int.reduceAdd, Int.reduceSub, Int.reduceMul]); try rfl) : p := h
theorem zT12 {p : Prop} (h : p := by simp only [takeDL, takeD, takeC, aget, Lk.upd, if_true, if_false, reduceIte, Nat.reduceEqDiff, List.append_nil, List.nil_append, List.cons_append]; try rfl) : p := h
theorem ltT {a b : Int} (h : a < b) : decide (a < b) = true := by simpa using h
theorem ltF {a b : Int} (h : ¬ a < b) : decide (a < b) = false := by simpa using h
theorem leT {a b : Int} (h : a ≤ b) : decide (a ≤ b) = true := by simpa using h
theorem leF {a b : Int} (h : ¬ a ≤ b) : decide (a ≤ b) = false := by simpa using h
theorem eqT {a b : Int} (h : a = b) : (a == b) = true := by simpa using h
theorem eqF {a b : Int} (h : ¬ a = b) : (a == b) = false := by simpa using h
theorem neT {a b : Int} (h : ¬ a = b) : (a != b) = true := by simpa using h
theorem neF {a b : Int} (h : a = b) : (a != b) = false := by simpa using h
theorem eP1 {a b : Nat} {v w : HV} {l m : List (Nat × Nat × HV)} (h : v = w) (h2 : l = m) : (a, b, v) :: l = (a, b, w) :: m := by rw [h, h2]
theorem eL1 {v w : HV} {l m : List HV} (h : v = w) (h2 : l = m) : v :: l = w :: m := by rw [h, h2]

variable {x y z : HX} {t : Nat} {u v w : HV} {kk : IntKind} {a b c : Int} {p q e : Bool} {cs cs' ws : List HV} {n m o off id sz : Nat} {path : List Nat}
abbrev G (P : Program) (C : CallSpec) (all r : List HOper) (i : Nat) (k : List HI) (rs : List Nat) (K : HV → Prop) (sl st : List (Nat × HV)) (nx : Nat) : Prop := hx P (.o C all r i :: k) (finish rs K) ⟨sl, st, nx⟩

def isMv (nz : Nat) (v : HV) : Bool :=
  match nz, v with
  | 0, _ => true
  | _ + 1, .nils => false
  | _ + 1, _ => true
theorem F_mv [ok : Ok C k] {nz : Nat} (hv : ev sl x = v) (hn : isMv nz v = true) (h : G P C all r (i + 1) k rs K ((t, v) :: sl) st nx) : G P C all (⟨some t, .mv nz x, none⟩ :: r) i k rs K sl st nx :=
  F_op ok.mono ok.plain (v := v) (us := []) (side := True) rfl (by rw [HOp.map, hv]) (by
    cases nz with
    | zero => cases v <;> rfl
    | succ nz => cases v <;> first | rfl | cases hn) trivial rfl h
theorem F_mvnil [ok : Ok C k] {nz fr : Nat} (hn : (nz != 0) = true) (hv : ev sl x = .nils) (hf : nx + stride * i = fr) (h : G P C all r (i + 1) k rs K ((t, .ref fr [] nz 0 0) :: sl) ((fr, .osl nz 0 []) :: st) nx) : G P C all (⟨some t, .mv nz x, none⟩ :: r) i k rs K sl st nx := by
  subst hf
  cases nz with
  | zero => cases hn
  | succ nz => exact F_op ok.mono ok.plain (us := [.put (nx + stride * i) (.osl (nz + 1) 0 [])]) (side := True) rfl (by rw [HOp.map, hv]) rfl trivial rfl h
theorem F_pickT [ok : Ok C k] (hc : ev sl x = .bool true) (hv : ev sl y = v) (h : G P C all r (i + 1) k rs K ((t, v) :: sl) st nx) : G P C all (⟨some t, .pick x y z, none⟩ :: r) i k rs K sl st nx :=
  F_op ok.mono ok.plain (v := v) (us := []) (side := True) rfl (by rw [HOp.map, hc, hv]) (by cases v <;> (try rfl) <;> (cases ev sl z <;> rfl)) trivial rfl h
theorem F_pickF [ok : Ok C k] (hc : ev sl x = .bool false) (hv : ev sl z = v) (h : G P C all r (i + 1) k rs K ((t, v) :: sl) st nx) : G P C all (⟨some t, .pick x y z, none⟩ :: r) i k rs K sl st nx :=
  F_op ok.mono ok.plain (v := v) (us := []) (side := True) rfl (by rw [HOp.map, hc, hv]) (by cases ev sl y <;> (try rfl) <;> (cases v <;> rfl)) trivial rfl h
theorem F_add [ok : Ok C k] (hx : ev sl x = .int kk a) (hy : ev sl y = .int kk b) (hc : kk.wrap (a + b) = c) (h : G P C all r (i + 1) k rs K ((t, .int kk c) :: sl) st nx) : G P C all (⟨some t, .bin .add x y, none⟩ :: r) i k rs K sl st nx :=
  F_op ok.mono ok.plain (v := .int kk c) (us := []) (side := kk = kk) rfl (by rw [HOp.map, hx, hy]) (by subst hc; rfl) rfl rfl h
theorem F_sub [ok : Ok C k] (hx : ev sl x = .int kk a) (hy : ev sl y = .int kk b) (hc : kk.wrap (a - b) = c) (h : G P C all r (i + 1) k rs K ((t, .int kk c) :: sl) st nx) : G P C all (⟨some t, .bin .sub x y, none⟩ :: r) i k rs K sl st nx :=
  F_op ok.mono ok.plain (v := .int kk c) (us := []) (side := kk = kk) rfl (by rw [HOp.map, hx, hy]) (by subst hc; rfl) rfl rfl h
theorem F_mul [ok : Ok C k] (hx : ev sl x = .int kk a) (hy : ev sl y = .int kk b) (hc : kk.wrap (a * b) = c) (h : G P C all r (i + 1) k rs K ((t, .int kk c) :: sl) st nx) : G P C all (⟨some t, .bin .mul x y, none⟩ :: r) i k rs K sl st nx :=
  F_op ok.mono ok.plain (v := .int kk c) (us := []) (side := kk = kk) rfl (by rw [HOp.map, hx, hy]) (by subst hc; rfl) rfl rfl h
theorem F_and [ok : Ok C k] (hx : ev sl x = .int kk a) (hy : ev sl y = .int kk b) (hc : kk.wrap (BitVec.ofInt kk.bits a &&& BitVec.ofInt kk.bits b).toNat = c) (h : G P C all r (i + 1) k rs K ((t, .int kk c) :: sl) st nx) : G P C all (⟨some t, .bin .and x y, none⟩ :: r) i k rs K sl st nx :=
  F_op ok.mono ok.plain (v := .int kk c) (us := []) (side := kk = kk) rfl (by rw [HOp.map, hx, hy]) (by subst hc; rfl) rfl rfl h
theorem F_or [ok : Ok C k] (hx : ev sl x = .int kk a) (hy : ev sl y = .int kk b) (hc : kk.wrap (BitVec.ofInt kk.bits a ||| BitVec.ofInt kk.bits b).toNat = c) (h : G P C all r (i + 1) k rs K ((t, .int kk c) :: sl) st nx) : G P C all (⟨some t, .bin .or x y, none⟩ :: r) i k rs K sl st nx :=
  F_op ok.mono ok.plain (v := .int kk c) (us := []) (side := kk = kk) rfl (by rw [HOp.map, hx, hy]) (by subst hc; rfl) rfl rfl h
theorem F_xor [ok : Ok C k] (hx : ev sl x = .int kk a) (hy : ev sl y = .int kk b) (hc : kk.wrap (BitVec.ofInt kk.bits a ^^^ BitVec.ofInt kk.bits b).toNat = c) (h : G P C all r (i + 1) k rs K ((t, .int kk c) :: sl) st nx) : G P C all (⟨some t, .bin .xor x y, none⟩ :: r) i k rs K sl st nx :=
  F_op ok.mono ok.plain (v := .int kk c) (us := []) (side := kk = kk) rfl (by rw [HOp.map, hx, hy]) (by subst hc; rfl) rfl rfl h
theorem F_quo [ok : Ok C k] (hx : ev sl x = .int kk a) (hy : ev sl y = .int kk b) (hb : b ≠ 0) (hc : kk.wrap (a.tdiv b) = c) (h : G P C all r (i + 1) k rs K ((t, .int kk c) :: sl) st nx) : G P C all (⟨some t, .bin .quo x y, none⟩ :: r) i k rs K sl st nx :=
  F_op ok.mono ok.plain (v := .int kk c) (us := []) (side := kk = kk ∧ b ≠ 0) rfl (by rw [HOp.map, hx, hy]) (by subst hc; rfl) ⟨rfl, hb⟩ rfl h
theorem F_rem [ok : Ok C k] (hx : ev sl x = .int kk a) (hy : ev sl y = .int kk b) (hb : b ≠ 0) (hc : a.tmod b = c) (h : G P C all r (i + 1) k rs K ((t, .int kk c) :: sl) st nx) : G P C all (⟨some t, .bin .rem x y, none⟩ :: r) i k rs K sl st nx :=
  F_op ok.mono ok.plain (v := .int kk c) (us := []) (side := kk = kk ∧ b ≠ 0) rfl (by rw [HOp.map, hx, hy]) (by subst hc; rfl) ⟨rfl, hb⟩ rfl h
theorem F_shl [ok : Ok C k] {k2 : IntKind} (hx : ev sl x = .int kk a) (hy : ev sl y = .int k2 b) (hb : 0 ≤ b) (hc : kk.wrap (a * 2 ^ (min b.toNat kk.bits)) = c) (h : G P C all r (i + 1) k rs K ((t, .int kk c) :: sl) st nx) : G P C all (⟨some t, .bin .shl x y, none⟩ :: r) i k rs K sl st nx :=
  F_op ok.mono ok.plain (v := .int kk c) (us := []) (side := 0 ≤ b) rfl (by rw [HOp.map, hx, hy]) (by subst hc; rfl) hb rfl h
theorem F_shr [ok : Ok C k] {k2 : IntKind} (hx : ev sl x = .int kk a) (hy : ev sl y = .int k2 b) (hb : 0 ≤ b) (hc : a.fdiv (2 ^ (min b.toNat kk.bits)) = c) (h : G P C all r (i + 1) k rs K ((t, .int kk c) :: sl) st nx) : G P C all (⟨some t, .bin .shr x y, none⟩ :: r) i k rs K sl st nx :=
  F_op ok.mono ok.plain (v := .int kk c) (us := []) (side := 0 ≤ b) rfl (by rw [HOp.map, hx, hy]) (by subst hc; rfl) hb rfl h
theorem F_eql [ok : Ok C k] (hx : ev sl x = .int kk a) (hy : ev sl y = .int kk b) (hc : (a == b) = p) (h : G P C all r (i + 1) k rs K ((t, .bool p) :: sl) st nx) : G P C all (⟨some t, .bin .eql x y, none⟩ :: r) i k rs K sl st nx :=
  F_op ok.mono ok.plain (v := .bool p) (us := []) (side := kk = kk) rfl (by rw [HOp.map, hx, hy]) (by subst hc; rfl) rfl rfl h
theorem F_neq [ok : Ok C k] (hx : ev sl x = .int kk a) (hy : ev sl y = .int kk b) (hc : (a != b) = p) (h : G P C all r (i + 1) k rs K ((t, .bool p) :: sl) st nx) : G P C all (⟨some t, .bin .neq x y, none⟩ :: r) i k rs K sl st nx :=
  F_op ok.mono ok.plain (v := .bool p) (us := []) (side := kk = kk) rfl (by rw [HOp.map, hx, hy]) (by subst hc; rfl) rfl rfl h
theorem F_lss [ok : Ok C k] (hx : ev sl x = .int kk a) (hy : ev sl y = .int kk b) (hc : decide (a < b) = p) (h : G P C all r (i + 1) k rs K ((t, .bool p) :: sl) st nx) : G P C all (⟨some t, .bin .lss x y, none⟩ :: r) i k rs K sl st nx :=
  F_op ok.mono ok.plain (v := .bool p) (us := []) (side := kk = kk) rfl (by rw [HOp.map, hx, hy]) (by subst hc; rfl) rfl rfl h
theorem F_leq [ok : Ok C k] (hx : ev sl x = .int kk a) (hy : ev sl y = .int kk b) (hc : decide (a ≤ b) = p) (h : G P C all r (i + 1) k rs K ((t, .bool p) :: sl) st nx) : G P C all (⟨some t, .bin .leq x y, none⟩ :: r) i k rs K sl st nx :=
  F_op ok.mono ok.plain (v := .bool p) (us := []) (side := kk = kk) rfl (by rw [HOp.map, hx, hy]) (by subst hc; rfl) rfl rfl h
theorem F_gtr [ok : Ok C k] (hx : ev sl x = .int kk a) (hy : ev sl y = .int kk b) (hc : decide (b < a) = p) (h : G P C all r (i + 1) k rs K ((t, .bool p) :: sl) st nx) : G P C all (⟨some t, .bin .gtr x y, none⟩ :: r) i k rs K sl st nx :=
  F_op ok.mono ok.plain (v := .bool p) (us := []) (side := kk = kk) rfl (by rw [HOp.map, hx, hy]) (by subst hc; rfl) rfl rfl h
theorem F_geq [ok : Ok C k] (hx : ev sl x = .int kk a) (hy : ev sl y = .int kk b) (hc : decide (b ≤ a) = p) (h : G P C all r (i + 1) k rs K ((t, .bool p) :: sl) st nx) : G P C all (⟨some t, .bin .geq x y, none⟩ :: r) i k rs K sl st nx :=
  F_op ok.mono ok.plain (v := .bool p) (us := []) (side := kk = kk) rfl (by rw [HOp.map, hx, hy]) (by subst hc; rfl) rfl rfl h
theorem F_beq [ok : Ok C k] {ne : Bool} (hx : ev sl x = .bool p) (hy : ev sl y = .bool q) (hc : (if ne = true then !(p == q) else p == q) = e) (h : G P C all r (i + 1) k rs K ((t, .bool e) :: sl) st nx) : G P C all (⟨some t, .beq ne x y, none⟩ :: r) i k rs K sl st nx :=
  F_op ok.mono ok.plain (v := .bool e) (us := []) (side := True) rfl (by rw [HOp.map, hx, hy]) (by subst hc; rfl) trivial rfl h
theorem F_aeq [ok : Ok C k] {ne : Bool} (hx : ev sl x = .agg cs) (hy : ev sl y = .agg cs') (hs : cs.length = n ∧ cs'.length = n ∧ aggInts cs = true ∧ aggInts cs' = true) (hc : (if ne = true then !(aggB cs cs') else aggB cs cs') = e) (h : G P C all r (i + 1) k rs K ((t, .bool e) :: sl) st nx) : G P C all (⟨some t, .aeq ne n x y, none⟩ :: r) i k rs K sl st nx :=
  F_op ok.mono ok.plain (v := .bool e) (us := []) (side := cs.length = n ∧ cs'.length = n ∧ aggInts cs = true ∧ aggInts cs' = true) rfl (by rw [HOp.map, hx, hy]) (by subst hc; rfl) hs rfl h
theorem F_not [ok : Ok C k] (hx : ev sl x = .bool p) (hc : (!p) = e) (h : G P C all r (i + 1) k rs K ((t, .bool e) :: sl) st nx) : G P C all (⟨some t, .un .not x, none⟩ :: r) i k rs K sl st nx :=
  F_op ok.mono ok.plain (v := .bool e) (us := []) (side := True) rfl (by rw [HOp.map, hx]) (by subst hc; rfl) trivial rfl h
theorem F_notT [ok : Ok C k] (hx : ev sl x = .bool true) (h : G P C all r (i + 1) k rs K ((t, .bool false) :: sl) st nx) : G P C all (⟨some t, .un .not x, none⟩ :: r) i k rs K sl st nx := F_not hx rfl h
theorem F_notF [ok : Ok C k] (hx : ev sl x = .bool false) (h : G P C all r (i + 1) k rs K ((t, .bool true) :: sl) st nx) : G P C all (⟨some t, .un .not x, none⟩ :: r) i k rs K sl st nx := F_not hx rfl h
theorem F_neg [ok : Ok C k] (hx : ev sl x = .int kk a) (hc : kk.wrap (0 - a) = c) (h : G P C all r (i + 1) k rs K ((t, .int kk c) :: sl) st nx) : G P C all (⟨some t, .un .neg x, none⟩ :: r) i k rs K sl st nx :=
  F_op ok.mono ok.plain (v := .int kk c) (us := []) (side := True) rfl (by rw [HOp.map, hx]) (by subst hc; rfl) trivial rfl h
theorem F_conv [ok : Ok C k] {k2 : IntKind} (hx : ev sl x = .int k2 a) (hc : kk.wrap a = c) (h : G P C all r (i + 1) k rs K ((t, .int kk c) :: sl) st nx) : G P C all (⟨some t, .conv kk x, none⟩ :: r) i k rs K sl st nx :=
  F_op ok.mono ok.plain (v := .int kk c) (us := []) (side := True) rfl (by rw [HOp.map, hx]) (by subst hc; rfl) trivial rfl h
theorem F_mm [ok : Ok C k] {mx : Bool} (hx : ev sl x = .int kk a) (hy : ev sl y = .int kk b) (hc : (if mx = true then (if a < b then b else a) else (if b < a then b else a)) = c) (h : G P C all r (i + 1) k rs K ((t, .int kk c) :: sl) st nx) : G P C all (⟨some t, .mm mx x y, none⟩ :: r) i k rs K sl st nx :=
  F_op ok.mono ok.plain (v := .int kk c) (us := []) (side := kk = kk) rfl (by rw [HOp.map, hx, hy]) (by subst hc; rfl) rfl rfl h
theorem F_lenN [ok : Ok C k] (hx : ev sl x = .nils) (h : G P C all r (i + 1) k rs K ((t, .int .i64 0) :: sl) st nx) : G P C all (⟨some t, .len x, none⟩ :: r) i k rs K sl st nx :=
  F_op ok.mono ok.plain (v := .int .i64 0) (us := []) (side := True) rfl (by rw [HOp.map, hx]) rfl trivial rfl h
theorem F_lenS [ok : Ok C k] (hx : ev sl x = .sl n cs) (h : G P C all r (i + 1) k rs K ((t, .int .i64 n) :: sl) st nx) : G P C all (⟨some t, .len x, none⟩ :: r) i k rs K sl st nx :=
  F_op ok.mono ok.plain (v := .int .i64 n) (us := []) (side := True) rfl (by rw [HOp.map, hx]) rfl trivial rfl h
theorem F_lenR [ok : Ok C k] (hx : ev sl x = .ref id path sz off n) (h : G P C all r (i + 1) k rs K ((t, .int .i64 n) :: sl) st nx) : G P C all (⟨some t, .len x, none⟩ :: r) i k rs K sl st nx :=
  F_op ok.mono ok.plain (v := .int .i64 n) (us := []) (side := True) rfl (by rw [HOp.map, hx]) rfl trivial rfl h
theorem F_iaS [ok : Ok C k] (hx : ev sl x = .sl n cs) (hy : ev sl y = .int kk a) (h0 : 0 ≤ a ∧ a < n) (ho : a.toNat * sz = o) (h : G P C all r (i + 1) k rs K ((t, .ptr cs o) :: sl) st nx) : G P C all (⟨some t, .iaddr sz x y, none⟩ :: r) i k rs K sl st nx :=
  F_op ok.mono ok.plain (v := .ptr cs o) (us := []) (side := 0 ≤ a ∧ a < n) rfl (by rw [HOp.map, hx, hy]) (by subst ho; rfl) h0 rfl h
theorem F_iaR [ok : Ok C k] (hx : ev sl x = .ref id path sz off n) (hy : ev sl y = .int kk a) (h0 : 0 ≤ a ∧ a < n) (ho : off + a.toNat * sz = o) (h : G P C all r (i + 1) k rs K ((t, .pref id path o) :: sl) st nx) : G P C all (⟨some t, .iaddr sz x y, none⟩ :: r) i k rs K sl st nx :=
  F_op ok.mono ok.plain (v := .pref id path o) (us := []) (side := 0 ≤ a ∧ a < n ∧ sz = sz) rfl (by rw [HOp.map, hx, hy]) (by subst ho; rfl) ⟨h0.1, h0.2, rfl⟩ rfl h
theorem F_faP [ok : Ok C k] {dd : Nat} (hx : ev sl x = .ptr cs off) (ho : off + dd = o) (h : G P C all r (i + 1) k rs K ((t, .ptr cs o) :: sl) st nx) : G P C all (⟨some t, .faddr dd x, none⟩ :: r) i k rs K sl st nx :=
  F_op ok.mono ok.plain (v := .ptr cs o) (us := []) (side := True) rfl (by rw [HOp.map, hx]) (by subst ho; rfl) trivial rfl h
theorem F_faR [ok : Ok C k] {dd : Nat} (hx : ev sl x = .pref id path off) (ho : off + dd = o) (h : G P C all r (i + 1) k rs K ((t, .pref id path o) :: sl) st nx) : G P C all (⟨some t, .faddr dd x, none⟩ :: r) i k rs K sl st nx :=
  F_op ok.mono ok.plain (v := .pref id path o) (us := []) (side := True) rfl (by rw [HOp.map, hx]) (by subst ho; rfl) trivial rfl h
theorem F_ldP [ok : Ok C k] (hx : ev sl x = .ptr cs off) (hl : off < cs.length) (hv : cs.getD off .dead = v) (h : G P C all r (i + 1) k rs K ((t, v) :: sl) st nx) : G P C all (⟨some t, .load false sz x, none⟩ :: r) i k rs K sl st nx :=
  F_op ok.mono ok.plain (v := v) (us := []) (side := off < cs.length) rfl (by rw [HOp.map, hx]) (by subst hv; rfl) hl rfl h
theorem F_ldPa [ok : Ok C k] (hx : ev sl x = .ptr cs off) (hl : off + sz ≤ cs.length) (hv : win cs off sz = ws) (h : G P C all r (i + 1) k rs K ((t, .agg ws) :: sl) st nx) : G P C all (⟨some t, .load true sz x, none⟩ :: r) i k rs K sl st nx :=
  F_op ok.mono ok.plain (v := .agg ws) (us := []) (side := off + sz ≤ cs.length) rfl (by rw [HOp.map, hx]) (by subst hv; rfl) hl rfl h
theorem F_ldR [ok : Ok C k] (hx : ev sl x = .pref id path off) (ht : aget id st = u) (hk : kidsOf (nget u path) = cs) (hl : off < cs.length) (hv : cs.getD off .dead = w) (hw : look id path off w = v) (h : G P C all r (i + 1) k rs K ((t, v) :: sl) st nx) : G P C all (⟨some t, .load false sz x, none⟩ :: r) i k rs K sl st nx :=
  F_op ok.mono ok.plain (v := v) (us := []) (side := off < cs.length) rfl (by rw [HOp.map, hx]) (by
    subst hv hw hk ht
    rfl) hl rfl h
theorem F_ldRa [ok : Ok C k] (hx : ev sl x = .pref id path off) (ht : aget id st = u) (hk : kidsOf (nget u path) = cs) (hl : off + sz ≤ cs.length) (h0 : 0 < sz) (hv : win cs off sz = ws) (hf : allFlat ws = true) (h : G P C all r (i + 1) k rs K ((t, .agg ws) :: sl) st nx) : G P C all (⟨some t, .load true sz x, none⟩ :: r) i k rs K sl st nx :=
  F_op ok.mono ok.plain (v := .agg ws) (us := []) (side := off + sz ≤ cs.length ∧ 0 < sz ∧ allFlat ws = true) rfl (by rw [HOp.map, hx]) (by
    subst hv hk ht
    simp only [topv, if_true]) ⟨hl, h0, hf⟩ rfl h
theorem takeL_flat (L : Lk) : ∀ {l : List HV}, allFlat l = true → takeL L l = (l, [], (takeL L l).2.2) ∧ (takeL L l).2.2 := by
  intro l
  induction l generalizing L with
  | nil => intro _; exact ⟨rfl, trivial⟩
  | cons v r ih =>
    intro h
    simp only [allFlat, List.all_cons, Bool.and_eq_true] at h
    have h1 : takeC L v = (v, [], True) := by cases v <;> first | rfl | (exact absurd h.1 (by simp [flatV]))
    obtain ⟨h2, h3⟩ := ih (L := L) h.2
    simp only [takeL, h1, Lk.upd]
    rw [h2]
    exact ⟨rfl, trivial, h3⟩
/-- A flat store. -/
theorem F_st [ok : Ok C k] (hx : ev sl x = .pref id path off) (hy : ev sl y = w) (hw : cellsOf w = ws) (hf : allFlat ws = true) (hz : ws.length = sz) (h0 : 0 < sz) (ht : aget id st = u) (hk : kidsOf (nget u path) = cs) (hl : off + sz ≤ cs.length)
    (hs : setFrom cs off ws = cs') (hn : nset (withKids cs' (nget u path)) u path = v) (h : G P C all r (i + 1) k rs K sl ((id, v) :: st) nx) : G P C all (⟨none, .store true sz x y, none⟩ :: r) i k rs K sl st nx := by
  obtain ⟨e1, e2⟩ := takeL_flat (fun j => aget j st) hf
  refine F_op ok.mono ok.plain (v := .dead) (us := [.put id v]) (side := (takeL (fun j => aget j st) ws).2.2 ∧ ws.length = sz ∧ 0 < sz ∧ off + sz ≤ cs.length ∧ (true = true → allFlat ws = true)) rfl (by rw [HOp.map, hx, hy]) ?_ ⟨e2, hz, h0, hl, fun _ => hf⟩ rfl h
  subst hn hs hk ht hw
  simp only [topv]
  rw [e1]
  simp only [if_true, List.nil_append, Lk.upd]
/-- A copy of elements of one cell. -/
theorem F_cpy [ok : Ok C k] {n q : Nat} {ws' : List HV} {sd : Prop} (hx : ev sl x = .ref id path 1 off n) (hy : ev sl y = w) (hn : newsOf (fun j => aget j st) true 1 w = (m, ws, [], sd)) (hs : sd) (hq : min m n = q) (hw : ws.take q = ws') (hf : allFlat ws' = true) (h0 : 0 < q) (ht : aget id st = u) (hk : kidsOf (nget u path) = cs) (hl : off + q ≤ cs.length)
    (hse : setFrom cs off ws' = cs') (hnn : nset (withKids cs' (nget u path)) u path = v) (h : G P C all r (i + 1) k rs K ((t, .int .i64 (q : Nat)) :: sl) ((id, v) :: st) nx) : G P C all (⟨some t, .cpy x y, none⟩ :: r) i k rs K sl st nx := by
  subst hnn hse hk ht hw hq
  refine F_op ok.mono ok.plain (v := .int .i64 (min m n : Nat)) (us := [.put id (nset (withKids (setFrom (kidsOf (nget (aget id st) path)) off (ws.take (min m n))) (nget (aget id st) path)) (aget id st) path)]) (side := sd ∧ 1 = 1 ∧ 0 < min m n ∧ off + min m n ≤ (kidsOf (nget (aget id st) path)).length ∧ allFlat (ws.take (min m n)) = true) rfl (by rw [HOp.map, hx, hy]) ?_ ⟨hs, rfl, h0, hl, hf⟩ rfl h
  simp only [topv, hn]
theorem F_fld [ok : Ok C k] (hx : ev sl x = .agg cs) (hl : off < cs.length) (hv : cs.getD off .dead = v) (h : G P C all r (i + 1) k rs K ((t, v) :: sl) st nx) : G P C all (⟨some t, .fld false sz off x, none⟩ :: r) i k rs K sl st nx :=
  F_op ok.mono ok.plain (v := v) (us := []) (side := off < cs.length) rfl (by rw [HOp.map, hx]) (by subst hv; rfl) hl rfl h
theorem F_flda [ok : Ok C k] (hx : ev sl x = .agg cs) (hl : off + sz ≤ cs.length) (hv : win cs off sz = ws) (h : G P C all r (i + 1) k rs K ((t, .agg ws) :: sl) st nx) : G P C all (⟨some t, .fld true sz off x, none⟩ :: r) i k rs K sl st nx :=
  F_op ok.mono ok.plain (v := .agg ws) (us := []) (side := off + sz ≤ cs.length) rfl (by rw [HOp.map, hx]) (by subst hv; rfl) hl rfl h
theorem F_ext [ok : Ok C k] (hx : ev sl x = .tup cs) (hl : n < cs.length) (hv : cs.getD n .dead = v) (h : G P C all r (i + 1) k rs K ((t, v) :: sl) st nx) : G P C all (⟨some t, .ext x n, none⟩ :: r) i k rs K sl st nx :=
  F_op ok.mono ok.plain (v := v) (us := []) (side := n < cs.length) rfl (by rw [HOp.map, hx]) (by subst hv; rfl) hl rfl h
theorem F_slcS [ok : Ok C k] {lo hi : Option HX} (hx : ev sl x = .sl n cs) (hlo : (lo.map (ev sl)).getD (.int .i64 0) = .int .i64 a) (hhi : (hi.map (ev sl)).getD (.int .i64 n) = .int .i64 b) (hside : 0 ≤ a ∧ a ≤ b ∧ b ≤ n) (hm : (b - a).toNat = m) (ho : a.toNat * sz = o) (hw : win cs o (m * sz) = ws)
    (h : G P C all r (i + 1) k rs K ((t, .sl m ws) :: sl) st nx) : G P C all (⟨some t, .slc sz x lo hi, none⟩ :: r) i k rs K sl st nx :=
  F_op ok.mono ok.plain (v := .sl m ws) (us := []) (side := 0 ≤ a ∧ a ≤ b ∧ b ≤ n) rfl (by rw [HOp.map, hx]) (by subst hw hm ho; simp only [topv, hlo, hhi]) hside rfl h
theorem F_slcR [ok : Ok C k] {lo hi : Option HX} (hx : ev sl x = .ref id path sz off n) (hlo : (lo.map (ev sl)).getD (.int .i64 0) = .int .i64 a) (hhi : (hi.map (ev sl)).getD (.int .i64 n) = .int .i64 b) (hside : 0 ≤ a ∧ a ≤ b ∧ b ≤ n) (hm : (b - a).toNat = m) (ho : off + a.toNat * sz = o)
    (h : G P C all r (i + 1) k rs K ((t, .ref id path sz o m) :: sl) st nx) : G P C all (⟨some t, .slc sz x lo hi, none⟩ :: r) i k rs K sl st nx :=
  F_op ok.mono ok.plain (v := .ref id path sz o m) (us := []) (side := 0 ≤ a ∧ a ≤ b ∧ b ≤ n ∧ sz = sz) rfl (by rw [HOp.map, hx]) (by subst hm ho; simp only [topv, hlo, hhi]) ⟨hside.1, hside.2.1, hside.2.2, rfl⟩ rfl h
theorem F_bsl [ok : Ok C k] {xs : List HX} {vs : List HV} {fr : Nat} (hf : nx + stride * i = fr) (hvs : xs.map (ev sl) = vs) (hcs : vs.flatMap cellsOf = cs) (hfl : allFlat cs = true) (hn : n = vs.length) (hz : (vs.all fun v => (cellsOf v).length == sz) = true)
    (h : G P C all r (i + 1) k rs K ((t, .ref fr [] sz 0 n) :: sl) ((fr, .osl sz n cs) :: st) nx) : G P C all (⟨some t, .bsl sz n xs, none⟩ :: r) i k rs K sl st nx := by
  obtain ⟨e1, e2⟩ := takeL_flat (fun j => aget j st) hfl
  subst hf
  refine F_op ok.mono ok.plain (us := [.put (nx + stride * i) (.osl sz n cs)]) (side := (takeL (fun j => aget j st) cs).2.2 ∧ n = vs.length ∧ (vs.all fun v => (cellsOf v).length == sz) = true) rfl (by rw [HOp.map, hvs]) ?_ ⟨e2, hn, hz⟩ rfl h
  subst hcs
  simp only [topv]
  rw [e1]
  rfl
theorem upF_append (a b : List Upd) : ∀ (sl st : List (Nat × HV)), upF sl st (a ++ b) = upF (upF sl st a).1 (upF sl st a).2 b := by
  induction a with
  | nil => intro sl st; rfl
  | cons u a ih => intro sl st; cases u <;> exact ih _ _
/-- A store of something owned: names of parts of what is written to are struck. -/
theorem F_stG [ok : Ok C k] {fl : Bool} {ws0 : List HV} {us : List Upd} {sd : Prop} (hx : ev sl x = .pref id path off) (hy : ev sl y = w) (hw : cellsOf w = ws0) (ht : takeL (fun j => aget j st) ws0 = (ws, us, sd)) (hs : sd) (hz : ws.length = sz) (h0 : 0 < sz) (hf : fl = false) (hu0 : Lk.upd (fun j => aget j st) us id = u) (hk : kidsOf (nget u path) = cs) (hl : off + sz ≤ cs.length)
    (hse : setFrom cs off ws = cs') (hn : nset (withKids cs' (nget u path)) u path = v) (hu : upF sl st (us ++ [.kill id path.length] ++ [.put id v]) = (sl', st')) (h : G P C all r (i + 1) k rs K sl' st' nx) : G P C all (⟨none, .store fl sz x y, none⟩ :: r) i k rs K sl st nx := by
  subst hf hn hse hk hu0 hw
  refine F_op ok.mono ok.plain (v := .dead) (us := us ++ [.kill id path.length] ++ [.put id (nset (withKids (setFrom (kidsOf (nget (Lk.upd (fun j => aget j st) us id) path)) off ws) (nget (Lk.upd (fun j => aget j st) us id) path)) (Lk.upd (fun j => aget j st) us id) path)]) (side := sd ∧ ws.length = sz ∧ 0 < sz ∧ off + sz ≤ (kidsOf (nget (Lk.upd (fun j => aget j st) us id) path)).length ∧ (false = true → allFlat ws = true)) rfl (by rw [HOp.map, hx, hy]) ?_ ⟨hs, hz, h0, hl, fun h => by cases h⟩ (by rw [hu]; rfl) h
  simp only [topv, ht, if_false, Bool.false_eq_true]
/-- What is owned becomes part of a row. -/
theorem F_bslG [ok : Ok C k] {xs : List HX} {vs cs0 : List HV} {us : List Upd} {sd : Prop} {fr : Nat} (hf : nx + stride * i = fr) (hvs : xs.map (ev sl) = vs) (hcs : vs.flatMap cellsOf = cs0) (ht : takeL (fun j => aget j st) cs0 = (cs, us, sd)) (hs : sd) (hn : n = vs.length) (hz : (vs.all fun v => (cellsOf v).length == sz) = true) (hu : upF sl st us = (sl', st'))
    (h : G P C all r (i + 1) k rs K ((t, .ref fr [] sz 0 n) :: sl') ((fr, .osl sz n cs) :: st') nx) : G P C all (⟨some t, .bsl sz n xs, none⟩ :: r) i k rs K sl st nx := by
  subst hf
  refine F_op ok.mono ok.plain (v := .ref (nx + stride * i) [] sz 0 n) (us := us ++ [.put (nx + stride * i) (.osl sz n cs)]) (side := sd ∧ n = vs.length ∧ (vs.all fun v => (cellsOf v).length == sz) = true) rfl (by rw [HOp.map, hvs]) ?_ ⟨hs, hn, hz⟩ (by rw [upF_append, hu]; rfl) h
  subst hcs
  simp only [topv]
  rw [ht]
/-- What is appended is owned. -/
theorem F_appRG [ok : Ok C k] {fr bytes sz2 n2 q : Nat} {fl : Bool} {sd : Prop} {us : List Upd} {u' : HV} (hf : nx + stride * i = fr) (hx : ev sl x = .ref id path sz off n) (hy : ev sl y = w) (hn : newsOf (fun j => aget j st) fl sz w = (m, ws, us, sd)) (hs : sd) (ht : Lk.upd (fun j => aget j st) us id = u) (hg : nget u path = .osl sz2 n2 cs) (hq : n + m = q)
    (hb : q * bytes ≤ 140737488355328) (hm : q ≤ maxLen) (hl : off + n * sz ≤ cs.length) (hc : win cs off (n * sz) ++ ws = cs') (hd : nset .dead u path = u') (hu : upF sl st us = (sl', st'))
    (h : G P C all r (i + 1) k rs K ((t, .ref fr [] sz 0 q) :: sl') ((fr, .osl sz q cs') :: (id, u') :: st') nx) : G P C all (⟨some t, .app fl sz bytes x y, none⟩ :: r) i k rs K sl st nx := by
  subst hf hd hc ht hq
  refine F_op ok.mono ok.plain (v := .ref (nx + stride * i) [] sz 0 (n + m)) (us := us ++ [.put id (nset .dead (Lk.upd (fun j => aget j st) us id) path), .put (nx + stride * i) (.osl sz (n + m) (win cs off (n * sz) ++ ws))]) (side := sd ∧ (n + m) * bytes ≤ 140737488355328 ∧ n + m ≤ maxLen ∧ sz = sz ∧ off + n * sz ≤ cs.length) rfl (by rw [HOp.map, hx, hy]) ?_ ⟨hs, hb, hm, rfl, hl⟩ (by rw [upF_append, hu]; rfl) h
  simp only [topv, hn, hg]
theorem F_newv [ok : Ok C k] {fr : Nat} (hf : nx + stride * i = fr) (hv : ev sl x = v) (hcs : cellsOf v = cs) (hfl : allFlat cs = true) (hz : cs.length = sz) (h : G P C all r (i + 1) k rs K ((t, .pref fr [] 0) :: sl) ((fr, .optr cs) :: st) nx) : G P C all (⟨some t, .newv sz x, none⟩ :: r) i k rs K sl st nx := by
  obtain ⟨e1, e2⟩ := takeL_flat (fun j => aget j st) hfl
  subst hf
  refine F_op ok.mono ok.plain (us := [.put (nx + stride * i) (.optr cs)]) (side := (takeL (fun j => aget j st) cs).2.2 ∧ cs.length = sz) rfl (by rw [HOp.map, hv]) ?_ ⟨e2, hz⟩ rfl h
  subst hcs
  simp only [topv]
  rw [e1]
  rfl
theorem F_newz [ok : Ok C k] {fr : Nat} (hf : nx + stride * i = fr) (h : G P C all r (i + 1) k rs K ((t, .pref fr [] 0) :: sl) ((fr, .optr cs) :: st) nx) : G P C all (⟨some t, .newz cs, none⟩ :: r) i k rs K sl st nx := by
  subst hf
  exact F_op ok.mono ok.plain (us := [.put (nx + stride * i) (.optr cs)]) (side := True) rfl rfl rfl trivial rfl h
theorem F_bld [ok : Ok C k] {zs : List HV} {ps : List (Nat × Nat × HX)} {qs : List (Nat × Nat × HV)} {side : Prop} (hq : (ps.map fun p => (p.1, p.2.1, ev sl p.2.2)) = qs) (hw : fillAt zs qs = (ws, side)) (hs : side) (h : G P C all r (i + 1) k rs K ((t, .agg ws) :: sl) st nx) : G P C all (⟨some t, .bld zs ps, none⟩ :: r) i k rs K sl st nx :=
  F_op ok.mono ok.plain (v := .agg ws) (us := []) (side := side) rfl rfl (by simp only [topv, HOp.map]; rw [hq, hw]) hs rfl h
theorem F_mksl [ok : Ok C k] {fr bytes : Nat} {zs : List HV} (hf : nx + stride * i = fr) (hx : ev sl x = .int .i64 a) (hs : 0 ≤ a ∧ bytes * a ≤ 281474976710656 ∧ a ≤ 9223372036854775807) (hm : a.toNat = m) (hcs : (List.replicate m zs).flatten = cs)
    (h : G P C all r (i + 1) k rs K ((t, .ref fr [] sz 0 m) :: sl) ((fr, .osl sz m cs) :: st) nx) : G P C all (⟨some t, .mksl sz bytes zs x, none⟩ :: r) i k rs K sl st nx := by
  subst hf hcs hm
  exact F_op ok.mono ok.plain (us := [.put (nx + stride * i) (.osl sz a.toNat (List.replicate a.toNat zs).flatten)]) (side := 0 ≤ a ∧ bytes * a ≤ 281474976710656 ∧ a ≤ 9223372036854775807) rfl (by rw [HOp.map, hx]) rfl hs rfl h
theorem F_appN [ok : Ok C k] {fr bytes : Nat} {fl : Bool} {sd : Prop} (hf : nx + stride * i = fr) (hx : ev sl x = .nils) (hy : ev sl y = w) (hn : newsOf (fun j => aget j st) fl sz w = (m, ws, [], sd)) (hs : sd) (hb : m * bytes ≤ 140737488355328) (hm : m ≤ maxLen)
    (h : G P C all r (i + 1) k rs K ((t, .ref fr [] sz 0 m) :: sl) ((fr, .osl sz m ws) :: st) nx) : G P C all (⟨some t, .app fl sz bytes x y, none⟩ :: r) i k rs K sl st nx := by
  subst hf
  refine F_op ok.mono ok.plain (us := [.put (nx + stride * i) (.osl sz m ws)]) (side := sd ∧ m * bytes ≤ 140737488355328 ∧ m ≤ maxLen) rfl (by rw [HOp.map, hx, hy]) ?_ ⟨hs, hb, hm⟩ rfl h
  simp only [topv, hn]
  rfl
theorem F_appR [ok : Ok C k] {fr bytes sz2 n2 q : Nat} {fl : Bool} {sd : Prop} {u' : HV} (hf : nx + stride * i = fr) (hx : ev sl x = .ref id path sz off n) (hy : ev sl y = w) (hn : newsOf (fun j => aget j st) fl sz w = (m, ws, [], sd)) (hs : sd) (ht : aget id st = u) (hg : nget u path = .osl sz2 n2 cs) (hq : n + m = q)
    (hb : q * bytes ≤ 140737488355328) (hm : q ≤ maxLen) (hl : off + n * sz ≤ cs.length) (hc : win cs off (n * sz) ++ ws = cs') (hd : nset .dead u path = u')
    (h : G P C all r (i + 1) k rs K ((t, .ref fr [] sz 0 q) :: sl) ((fr, .osl sz q cs') :: (id, u') :: st) nx) : G P C all (⟨some t, .app fl sz bytes x y, none⟩ :: r) i k rs K sl st nx := by
  subst hf hd hc ht hq
  refine F_op ok.mono ok.plain (us := [.put id (nset .dead (aget id st) path), .put (nx + stride * i) (.osl sz (n + m) (win cs off (n * sz) ++ ws))]) (side := sd ∧ (n + m) * bytes ≤ 140737488355328 ∧ n + m ≤ maxLen ∧ sz = sz ∧ off + n * sz ≤ cs.length) rfl (by rw [HOp.map, hx, hy]) ?_ ⟨hs, hb, hm, rfl, hl⟩ rfl h
  simp only [topv, hn, Lk.upd, hg, List.nil_append]
theorem F_mkfn [ok : Ok C k] {f : FuncId} {xs : List HX} {vs : List HV} (hvs : xs.map (ev sl) = vs) (h : G P C all r (i + 1) k rs K ((t, .fn f vs) :: sl) st nx) : G P C all (⟨some t, .mkfn f xs, none⟩ :: r) i k rs K sl st nx :=
  F_op ok.mono ok.plain (v := .fn f vs) (us := []) (side := True) rfl (by rw [HOp.map, hvs]) rfl trivial rfl h
def okNil : HV → Bool
  | .ptr .. => true
  | .pref .. => true
  | .fn .. => true
  | _ => false
theorem F_nilck [ok : Ok C k] (hx : ev sl x = v) (hv : okNil v = true) (h : G P C all r (i + 1) k rs K ((t, v) :: sl) st nx) : G P C all (⟨some t, .nilck x, none⟩ :: r) i k rs K sl st nx :=
  F_op ok.mono ok.plain (v := v) (us := []) (side := True) rfl (by rw [HOp.map, hx]) (by cases v <;> first | rfl | cases hv) trivial rfl h
theorem F_nilckN [ok : Ok C k] (hx : ev sl x = v) (hv : okNil v = true) (h : G P C all r (i + 1) k rs K sl st nx) : G P C all (⟨none, .nilck x, none⟩ :: r) i k rs K sl st nx :=
  F_op ok.mono ok.plain (v := v) (us := []) (side := True) rfl (by rw [HOp.map, hx]) (by cases v <;> first | rfl | cases hv) trivial rfl h
/-- A guard that is met, one that is not. -/
theorem F_yes {op : HOp HX} {j e : Nat} {want : Bool} (hd : (all[j]?).bind (·.dst) = some e) (hb : aget e sl = .bool want) (h : G P C all (⟨d, op, none⟩ :: r) i k rs K sl st nx) : G P C all (⟨d, op, some (j, want)⟩ :: r) i k rs K sl st nx := hx_gT hd hb h
theorem F_no [ok : Ok C k] {op : HOp HX} {j e : Nat} {want : Bool} (hd : (all[j]?).bind (·.dst) = some e) (hb : aget e sl = .bool (!want)) (h : G P C all r (i + 1) k rs K ((t, .tup []) :: sl) st nx) : G P C all (⟨some t, op, some (j, want)⟩ :: r) i k rs K sl st nx := by
  refine hx_gF hd hb ?_
  exact hx_eqv ok.mono ok.plain (s := ⟨(t, .tup []) :: sl, st, nx⟩) (upS_eqv (us := []) (d := some t) (v := (.tup [])) rfl) h
theorem F_noN {op : HOp HX} {j e : Nat} {want : Bool} (hd : (all[j]?).bind (·.dst) = some e) (hb : aget e sl = .bool (!want)) (h : G P C all r (i + 1) k rs K sl st nx) : G P C all (⟨none, op, some (j, want)⟩ :: r) i k rs K sl st nx := hx_gF hd hb h
theorem F_noU [ok : Ok C k] {op : HOp HX} {j e : Nat} {want : Bool} (hd : (all[j]?).bind (·.dst) = some e) (hb : aget e sl = .tup []) (h : G P C all r (i + 1) k rs K ((t, .tup []) :: sl) st nx) : G P C all (⟨some t, op, some (j, want)⟩ :: r) i k rs K sl st nx := by
  refine hx_guardU rfl hd hb ?_
  exact hx_eqv ok.mono ok.plain (s := ⟨(t, .tup []) :: sl, st, nx⟩) (upS_eqv (us := []) (d := some t) (v := .tup []) rfl) h
theorem F_nil {nx' : Nat} (hn : nx + stride * all.length = nx') (h : hx P k (finish rs K) ⟨sl, st, nx'⟩) : G P C all [] i k rs K sl st nx := by
  subst hn
  show hx P (.o C all [] i :: k) (finish rs K) ⟨sl, st, nx⟩
  rw [hx_o_nil]; exact h
/-- A call. -/
theorem F_call [ok : Ok (HS P) k] {f : FuncId} {xs : List HX} {vs args : List HV} {K' : HV → Prop} (hvs : xs.map (ev sl) = vs) (ha : thawL allIds (fun j => aget j st) vs = args) (hC : HT P f args K')
    (h : ∀ v, K' v → (refFreeL vs || v.noRd) = true ∧ ∃ v' us n2 sl' st', unpack (nx + stride * i) v = (v', us, n2) ∧ n2 ≤ nx + stride * (i + 1) ∧ upS d v' (upF sl st us) = (sl', st') ∧ G P (HS P) all r (i + 1) k rs K sl' st' nx) :
    G P (HS P) all (⟨d, .call f xs, none⟩ :: r) i k rs K sl st nx := by
  subst hvs
  refine hx_call (ha ▸ hC) ?_
  intro v hv
  obtain ⟨h1, v', us, n2, sl', st', h2, h3, h4, h5⟩ := h v hv
  rw [h2]
  exact ⟨h1, h3, hx_eqv ok.mono ok.plain (upS_eqv h4) h5⟩
theorem F_callv [ok : Ok (HS P) k] {f : FuncId} {xs : List HX} {cap vs args : List HV} {K' : HV → Prop} (hx : ev sl x = .fn f cap) (hvs : xs.map (ev sl) = vs) (ha : thawL allIds (fun j => aget j st) (vs ++ cap) = args) (hC : HT P f args K')
    (h : ∀ v, K' v → (refFreeL (vs ++ cap) || v.noRd) = true ∧ ∃ v' us n2 sl' st', unpack (nx + stride * i) v = (v', us, n2) ∧ n2 ≤ nx + stride * (i + 1) ∧ upS d v' (upF sl st us) = (sl', st') ∧ G P (HS P) all r (i + 1) k rs K sl' st' nx) :
    G P (HS P) all (⟨d, .callv x xs, none⟩ :: r) i k rs K sl st nx := by
  subst hvs
  refine hx_callv hx (ha ▸ hC) ?_
  intro v hv
  obtain ⟨h1, v', us, n2, sl', st', h2, h3, h4, h5⟩ := h v hv
  rw [h2]
  exact ⟨h1, h3, hx_eqv ok.mono ok.plain (upS_eqv h4) h5⟩
end
section
variable {P : Program} {k : List HI} {Q : HE → St → Prop} {s : St}
/-- A loop, by a ghost: what is the same in each round is a family of states. -/
def LI {α : Type} (Inv : α → Prop) (S : α → St) (s : St) : Prop := ∃ a, Inv a ∧ s = S a
open Classical in
noncomputable def Lμ {α : Type} (Inv : α → Prop) (S : α → St) (m : α → Nat) (s : St) : Nat := if h : ∃ n, ∃ a, Inv a ∧ s = S a ∧ m a = n then Classical.choose (exists_min h) else 0
theorem Lμ_spec {α : Type} {Inv : α → Prop} {S : α → St} {m : α → Nat} {s : St} (h : LI Inv S s) : (∃ a, Inv a ∧ s = S a ∧ m a = Lμ Inv S m s) ∧ ∀ a, Inv a → s = S a → Lμ Inv S m s ≤ m a := by
  have hex : ∃ n, ∃ a, Inv a ∧ s = S a ∧ m a = n := by obtain ⟨a, h1, h2⟩ := h; exact ⟨m a, a, h1, h2, rfl⟩
  have e : Lμ Inv S m s = Classical.choose (exists_min hex) := by unfold Lμ; rw [dif_pos hex]
  rw [e]
  have hs := Classical.choose_spec (exists_min hex)
  exact ⟨hs.1, fun a h1 h2 => hs.2 _ ⟨a, h1, h2, rfl⟩⟩
theorem hx_loopG {α : Type} {b : HCode} (keep : List Nat) (Inv : α → Prop) (S : α → St) (m : α → Nat) (a0 : α) (h0 : Inv a0) (hn : norm2 keep s = S a0) (hr : ∀ a, Inv a → hx P (.c b :: .l (LI Inv S) (Lμ Inv S m) (m a) :: k) Q (S a)) : hx P (.c (.loop b) :: k) Q s := by
  refine hx_loop (LI Inv S) (Lμ Inv S m) (S a0) (hn ▸ Weak.norm2 keep s) ⟨a0, h0, rfl⟩ ?_
  intro s1 h1
  obtain ⟨⟨a, h2, h3, h4⟩, _⟩ := Lμ_spec (m := m) h1
  rw [← h4]
  subst h3
  exact hr a h2
theorem hx_lG {α : Type} {n : Nat} (keep : List Nat) {Inv : α → Prop} {S : α → St} {m : α → Nat} (a : α) (h1 : Inv a) (h2 : m a < n) (hn : norm2 keep s = S a) : hx P (.l (LI Inv S) (Lμ Inv S m) n :: k) Q s := by
  refine hx_l (S a) (hn ▸ Weak.norm2 keep s) ⟨a, h1, rfl⟩ ?_
  exact Nat.lt_of_le_of_lt ((Lμ_spec (m := m) ⟨a, h1, rfl⟩).2 a h1 rfl) h2
/-- Something owned may from now on only be read. -/
theorem hx_freezeN {x : HCode} (id : Nat) (keep : List Nat) (s0 : St) (hn : norm2 keep (freeze id s) = s0) (h : hx P (.c x :: k) Q s0) : hx P (.c x :: k) Q s := hx_weak ((Weak.freeze id s).trans (hn ▸ Weak.norm2 keep (freeze id s))) h
/-- What is no longer wanted is dropped. -/
theorem hx_dropN {x : HCode} (keep : List Nat) (s0 : St) (hn : norm2 keep s = s0) (h : hx P (.c x :: k) Q s0) : hx P (.c x :: k) Q s := hx_weak (hn ▸ Weak.norm2 keep s) h
theorem hx_retF {rs : List Nat} {K : HV → Prop} {sl st : List (Nat × HV)} {nx : Nat} {vs0 vs : List HV} {us : List Upd} {side : Prop} (hvs : (rs.map fun r => aget r sl) = vs0) (h0 : takeDL (fun j => aget j st) vs0 = (vs, us, side)) (hs : side) (hK : K (tupOf vs)) :
    hx P (.c .ret :: k) (finish rs K) ⟨sl, st, nx⟩ := hx_retE (by rw [hvs]; exact h0) hs hK
end
/-- A call to which something is given away, some of which comes back. -/
theorem hx_callJ {P : Program} {k : List HI} {Q : HE → St → Prop} {sl st : List (Nat × HV)} {nx : Nat} {o : HOper} {r : List HOper} {f : FuncId} {vs ts : List HV} {us : List Upd} {sd : Prop} (io ids : List Nat) {K' : HV → List HV → Prop} (hog : o.guard = none) (hc : calleeOf ⟨sl, st, nx⟩ o.op = some (f, vs)) (ht : takeDL (fun j => aget j st) vs = (ts, us, sd)) (hs : sd) (hio : (io.map (fun j => vs[j]?) = ids.map fun id => some (HV.pref id [] 0))) (hids : ids.Nodup) (hC : HTI P f ts io K') (hg : (r.all fun o => o.guard.isNone) = true)
    (h : ∀ v outs, K' v outs → outs.length = ids.length → ∃ v' us' n2 sl' st', unpack nx v = (v', us', n2) ∧ upS o.dst v' (upF sl st (us ++ kills ids ++ backs ids outs ++ us')) = (sl', st') ∧ hx P (.c (.region none r) :: k) Q ⟨sl', st', n2⟩) : hx P (.c (.region none (o :: r)) :: k) Q ⟨sl, st, nx⟩ := by
  have hM : (⟨sl, st, nx⟩ : St).M = fun j => aget j st := rfl
  refine hx_callI io ids hg hog hc (by rw [hM, ht]; exact hs) hio hids (K' := K') (by rw [hM, ht]; exact hC) ?_
  intro v outs hv hl
  obtain ⟨v', us', n2, sl', st', h2, h4, h5⟩ := h v outs hv hl
  rw [hM, ht]
  show hx P _ Q { ((St.upd ⟨sl, st, nx⟩ (us ++ kills ids ++ backs ids outs ++ (unpack nx v).2.1)).put o.dst (unpack nx v).1) with nx := (unpack nx v).2.2 }
  rw [h2]
  have he := upS_eqv (nx := nx) h4
  refine hx_weak (Eqv.weak (s' := { ((St.upd ⟨sl, st, nx⟩ (us ++ kills ids ++ backs ids outs ++ us')).put o.dst v') with nx := n2 }) (s := ⟨sl', st', n2⟩) ⟨he.1, he.2.1, rfl⟩ (Weak.refl _)) h5
theorem hx_callG {P : Program} {k : List HI} {Q : HE → St → Prop} {sl st : List (Nat × HV)} {nx : Nat} {d : Option Nat} {f : FuncId} {xs : List HX} {r : List HOper} {vs ts : List HV} {us : List Upd} {sd : Prop} {K' : HV → Prop} (hvs : xs.map (ev sl) = vs) (ht : takeDL (fun j => aget j st) vs = (ts, us, sd)) (hs : sd) (hC : HTM P f ts K') (hg : (r.all fun o => o.guard.isNone) = true)
    (h : ∀ v, K' v → ∃ v' us' n2 sl' st', unpack nx v = (v', us', n2) ∧ upS d v' (upF sl st (us ++ us')) = (sl', st') ∧ hx P (.c (.region none r) :: k) Q ⟨sl', st', n2⟩) : hx P (.c (.region none (⟨d, .call f xs, none⟩ :: r)) :: k) Q ⟨sl, st, nx⟩ := by
  subst hvs
  refine hx_callJ [] [] rfl rfl ht hs rfl .nil hC hg ?_
  intro v outs hv hl
  obtain rfl := List.eq_nil_of_length_eq_zero hl
  obtain ⟨v', us', n2, sl', st', h2, h4, h5⟩ := h v hv
  exact ⟨v', us', n2, sl', st', h2, by simpa [kills, backs] using h4, h5⟩
/-- What holds of one form of the arguments holds of any other form that stands for the same values. -/
theorem HT.weak {P : Program} {f : FuncId} {args args' : List HV} {K : HV → Prop} (h : HT P f args K) (hw : ∀ (F : Nat → Prop) (hh : Hp) (rargs : List Value), OW F hh noR args' rargs [] → OW F hh noR args rargs []) : HT P f args' K :=
  ⟨h.1, fun w r F hF ho => h.2 w r F hF (hw F w.heap r ho)⟩
end Go.HL
end

section
namespace Go.HL
open Go.RowKit

section
variable {P : Program} {E : Fr} {N fr : Nat} {sl st : Lk} {loc : Nat → Value} {fp : Nat → List Nat} {a : Act} {w : World}

/-- Either the row grows in its place, or a copy of it grows. -/
theorem app_both (hr : Rel E N sl st loc fp a w) (hfr : N ≤ fr) {t tx e e' ty : TypeId} {i : TypeInfo} (ht : P.underlying t = some (.slice e)) (htx : P.underlying tx = some (.slice e')) (hi : P.info? e = some i) {z : Value} (hz : i.zero = some z) (hzs : z.cells.size = i.size)
    {id n m : Nat} {cs ws : List HV} {y : HV} {sd : Prop} {rx ry : Value} (hx : V E N st loc fp w (.ref id [] i.size 0 n) rx) (hst : st id = .osl i.size n cs) (hcf : allFlat cs = true) (hy : V E N st loc fp w y ry) (hn : newsOf st true i.size y = (m, ws, [], sd)) (hs : sd) (hwf : allFlat ws = true)
    (hm0 : 0 < m) (hb : (n + m) * i.bytes ≤ 140737488355328) (hm : n + m ≤ maxLen) :
    ∃ r w', (Builtin.append_ #[t, tx] ty #[rx, ry]).run P w = .ok r w' ∧ (After E (fr + 1) sl st [.put id (.osl i.size (n + m) (cs ++ ws))] (.ref id [] i.size 0 (n + m)) r a w' ∨
      After E (fr + 1) sl st [.put fr (.osl i.size (n + m) (cs ++ ws))] (.ref fr [] i.size 0 (n + m)) r a w') := by
  have hnv : (newsOf st true i.size y).2.2.2 := by rw [hn]; exact hs
  obtain ⟨rn, ff, ids, T⟩ := news_sound hr htx hy hnv
  rw [hn] at T
  have hrl := T.src.toSrc.newsLen
  have hol := T.own.length
  simp only at hrl hol
  have hwn : OW (frz E fp w) w.heap noR ws rn [] := OW.flatL T.own hwf
  have grow : ∀ {base : Option Addr} {sLen sCap : Nat} {olds : List Value}, (Builtin.firstCells i.size sLen (.slice base sLen sCap)).run P w.drew = .ok olds.toArray w.drew → sCap < sLen + m → (sLen + m) * i.bytes ≤ 140737488355328 → sLen + m ≤ maxLen → _ :=
    fun {base sLen sCap olds} h1 h2 h3 h4 => run_append_grow_src (P := P) w t tx ty e i z ht hi hz base sLen sCap olds h1 ry _ rn T.src.toSrc h2 (by unfold maxLen at h4; omega) (growslice_fits h2 h3)
  obtain ⟨hid, hp, ⟨a', c, rfl, hc, hsome⟩, h5, h4⟩ := of_ref hx
  obtain ⟨-, a2, cap, b1, b2⟩ := h4 _ _ _ (by rw [nget]; exact hst)
  have b1' : loc id = .slice a2 n cap := by simpa [rnav] using b1
  have hdd : st id ≠ .dead := by rw [hst]; simp
  have ho := hr.tree id hdd
  rw [hst, b1'] at ho
  have hidfr : id ≠ fr := by omega
  -- a copy grows
  have cpy : ∀ {olds : List Value}, (Builtin.firstCells i.size n (.slice a' n c)).run P w.drew = .ok olds.toArray w.drew → c < n + m → OW (frz E fp w) w.heap noR cs olds [] → cs.length = n * i.size →
      ∃ r w', (Builtin.append_ #[t, tx] ty #[.slice a' n c, ry]).run P w = .ok r w' ∧ After E (fr + 1) sl st [.put fr (.osl i.size (n + m) (cs ++ ws))] (.ref fr [] i.size 0 (n + m)) r a w' := by
    intro olds h1 h2 h3 h6
    have hg := grow h1 h2 hb hm
    simp only at hg
    refine ⟨_, _, hg, ?_⟩
    have old : ∀ b, b < w.heap.size → (w.drew.alloc (.cells ((olds ++ rn).toArray ++ Builtin.zeroCells z.cells (grownCap w (n + m) c e - (n + m))) e)).heap[b]? = w.heap[b]? := fun b hb => heap_al_old w.drew _ hb
    have hsz : (w.drew.alloc (.cells ((olds ++ rn).toArray ++ Builtin.zeroCells z.cells (grownCap w (n + m) c e - (n + m))) e)).heap.size = w.heap.size + 1 := heap_al_size w.drew _
    have oall : OW (frz E fp w) w.heap noR (cs ++ ws) (olds ++ rn) [] := h3.append hwn
    have ho2 := oall.stable (F' := frz E fp w) (R' := noR) (fun b hb => by cases hb) (fun b hb => ⟨hb, old b hb.1⟩) (fun _ _ h => h)
    have hT := grown_row ho2 (by rw [List.length_append, h6, hol, hrl, Nat.add_mul]) hzs (grownCap_ge w (n + m) c e) (grownCap_le_maxLen w (n + m) c e hm) (heap_al_new w.drew _ rfl)
    obtain ⟨q1, q2, q3⟩ := hr.make hfr (w' := w.drew.alloc (.cells ((olds ++ rn).toArray ++ Builtin.zeroCells z.cells (grownCap w (n + m) c e - (n + m))) e)) (by omega) rfl rfl rfl old hT (fun b hb => by
      rcases List.mem_cons.1 hb with rfl | h
      · exact ⟨Nat.le_refl _, by rw [hsz]; exact Nat.lt_succ_self _⟩
      · cases h) (by simp) (by simp)
    exact ⟨_, _, q1, mk_leaf rfl (ref_new (st' := Lk.upd st [.put fr (.osl i.size (n + m) (cs ++ ws))]) (loc' := fun j => if j = fr then _ else loc j) hT (by simp [Lk.upd]) (by simp))⟩
  have none_ : n = 0 → c = 0 → cs = [] → ∃ r w', (Builtin.append_ #[t, tx] ty #[.slice a' n c, ry]).run P w = .ok r w' ∧ After E (fr + 1) sl st [.put fr (.osl i.size (n + m) (cs ++ ws))] (.ref fr [] i.size 0 (n + m)) r a w' := by
    intro hn0 hc0 hcs
    subst hn0 hc0 hcs
    have hfc : (Builtin.firstCells i.size 0 (.slice a' 0 0)).run P w.drew = .ok ([] : List Value).toArray w.drew := by
      cases a' with
      | none => exact run_firstCells_none _ _ _ _ _
      | some a' => exact run_firstCells_some (P := P) w.drew i.size 0 a' 0 0 [] (Nat.zero_mul _).symm (fun j v hj => absurd hj (by simp))
    exact cpy hfc (by omega) .nil (by simp)
  obtain ⟨fs, hfs⟩ : ∃ fs, fp id = fs := ⟨_, rfl⟩
  rw [hfs] at ho
  cases ho with
  | leaf _ h2 => exact absurd rfl (h2 _ _ _)
  | osl0 =>
    obtain ⟨r, w', q1, q2⟩ := none_ rfl (by rcases b2 with ⟨_, a3, b3⟩ | ⟨g, oo, c', _, b3, b4, b5, b6⟩ <;> cases b3 <;> omega) rfl
    exact ⟨r, w', q1, .inr q2⟩
  | @osl _ _ _ _ g oo _ cur e5 rvs f3 _ _ _ g1 g2 g3 g4 g5 g6 g7 g8 =>
    cases g8
    have g7' : OW (frz E fp w) w.heap noR cs rvs [] := OW.flatL g7 hcf
    by_cases hcap0 : c = 0
    · obtain rfl : n = 0 := by omega
      obtain ⟨r, w', q1, q2⟩ := none_ rfl hcap0 (List.eq_nil_of_length_eq_zero (by rw [g2, Nat.zero_mul]))
      exact ⟨r, w', q1, .inr q2⟩
    · rcases b2 with ⟨rfl, a3, b3⟩ | ⟨g', oo', c', b0, b3, b4, b5, b6⟩
      · cases b3; exact absurd rfl hcap0
      cases b0
      cases b3
      rw [Nat.add_zero] at *
      rw [Nat.zero_add] at b4
      have hgid : g ∈ fp id := by rw [hfs]; simp
      by_cases hroom : n + m ≤ c
      · -- in its place
        have hfit : oo + n * i.size + rn.length ≤ cur.size := by
          rw [hrl]
          have : n * i.size + m * i.size ≤ c * i.size := by rw [← Nat.add_mul]; exact Nat.mul_le_mul_right _ hroom
          omega
        have hrun := run_append_room_src (P := P) w t tx ty e i ht hi g oo n c ry m rn T.src.toSrc hroom
          (fun j hj => by rw [cell_cellAt]; simp only [cellAt, g1]; simp; omega) (fun j hj => by unfold World.frozen?; simp [g1])
        obtain ⟨cur', d1, d2, d3⟩ := setCells_heap g rn (oo + n * i.size) w cur _ g1
        obtain ⟨m1, m2, m3, m4⟩ := setCells_meta g rn (oo + n * i.size) w
        have oth := setCells_other g rn (oo + n * i.size) w
        generalize w.setCells g (oo + n * i.size) rn = w' at *
        refine ⟨_, _, hrun, .inl ?_⟩
        have ohp : ∀ b, b ≠ g → w'.heap[b]? = w.heap[b]? := oth
        have oall : OW (frz E fp w) w'.heap noR (cs ++ ws) (rvs ++ rn) [] := (g7'.append hwn).stable (fun b hb => by cases hb) (fun b hb => ⟨hb, ohp b (fun e => by subst e; exact hb.2.2 id hgid)⟩) (fun _ _ h => h)
        have lall : (cs ++ ws).length = (n + m) * i.size := by rw [List.length_append, g2, hol, hrl, Nat.add_mul]
        have hcells : rvs ++ rn = (cur'.toList.drop oo).take (cs ++ ws).length := by
          rw [lall, d2, g3, g2]
          have key : ∀ (vs l : List Value) (k : Nat), k + vs.length ≤ l.length → (setFromV l k vs).take (k + vs.length) = l.take k ++ vs := by
            intro vs
            induction vs with
            | nil => intro l k _; simp [setFromV]
            | cons v vs ih =>
              intro l k h
              simp only [List.length_cons] at h
              rw [setFromV, List.length_cons, show k + (vs.length + 1) = (k + 1) + vs.length by omega, ih _ (k + 1) (by simp; omega)]
              rw [List.take_set, List.take_succ_eq_append_getElem (by omega), List.set_append_right _ _ (by simp; omega)]
              simp [show min k l.length = k by omega]
          have h1 := setFromV_window cur.toList oo (cur.size - oo) rn (n * i.size)
          have h2 : ∀ l : List Value, l.length = cur.size → ((l.drop oo).take (cur.size - oo)) = l.drop oo := fun l hl => List.take_of_length_le (by simp; omega)
          rw [h2 _ (by rw [setFromV_length]; simp), h2 _ (by simp)] at h1
          rw [h1]
          have h3 := key rn (cur.toList.drop oo) (n * i.size) (by simp; omega)
          rw [← h3, hrl, Nat.add_mul]
        have main := hr.step (fun _ => True) hr.all (fun j => j = id) (N' := fr + 1) (st' := Lk.upd st [.put id (.osl i.size (n + m) (cs ++ ws))]) (loc' := fun j => if j = id then .slice (some ⟨g, oo, none⟩) (n + m) cap else loc j) (fp' := fun j => if j = id then [g] else fp j) (w' := w') (by omega) (by omega) m2 m3 m4
          (fun b hb hX => ohp b (fun e => by subst e; exact hX id rfl hgid)) ?_ ?_ ?_ ?_ ?_ ?_ ?_ ?_
        · refine ⟨_, _, main.1, mk_leaf rfl ?_⟩
          refine ⟨by omega, by simp, ⟨_, c, rfl, hroom, fun _ => ⟨g, oo, rfl⟩⟩, by simp [Lk.upd, nget], fun sz' m' cs' hg => ?_⟩
          simp only [Lk.upd, if_true, nget, HV.osl.injEq] at hg
          obtain ⟨rfl, rfl, rfl⟩ := hg
          exact ⟨rfl, _, cap, by simp [rnav], .inr ⟨g, oo, c, rfl, by simp, by simpa using b4, hroom, b6⟩⟩
        · intro j hj
          exact ⟨by simp only [Lk.upd, if_neg hj], by simp only [if_neg hj], by simp only [if_neg hj]⟩
        · intro hfz j hj _
          subst hj
          simp only [Lk.upd, if_true]
          have := OW.osl (F := frz E fp w) (h := w'.heap) (R := noR) (sz := i.size) (n := n + m) (off := oo) (cap := cap) d1 lall hcells (by omega) (by omega) g6 oall (.nil)
          exact this.stable (fun _ _ => rfl) (fun b hb => ⟨(hfz b hb).1, rfl⟩) (fun _ _ h => h)
        · intro j hj hd; subst hj; simp [Lk.upd] at hd
        · intro j hj hd; subst hj; omega
        · intro j hj b hb
          subst hj
          simp at hb
          subst hb
          exact .inr ⟨_, rfl, hgid⟩
        · intro j hj; subst hj; simp
        · intro j k hj hk hjk; exact absurd (hj.trans hk.symm) hjk
        · intro v rv j hv _ hj hX
          subst hX
          cases v <;> simp only [refId, Option.some.injEq, reduceCtorEq] at hj <;> subst hj
          · rename_i p sz off n'
            obtain ⟨k1, k2, k3, k4, k5⟩ := hv
            refine ⟨by omega, k2, k3, ?_, ?_⟩
            · match p, k2 with
              | [], _ => simp [Lk.upd, nget]
              | [q], _ =>
                intro cs' hq
                simp only [Lk.upd, if_true, nget] at hq
                have := List.all_eq_true.1 (show allFlat (cs ++ ws) = true by simp [allFlat] at hcf hwf ⊢; exact ⟨hcf, hwf⟩)
                rw [List.getD_eq_getElem?_getD] at hq
                cases hc : (cs ++ ws)[q]? with
                | none => rw [hc] at hq; cases hq
                | some v =>
                  rw [hc] at hq
                  simp only [Option.getD_some] at hq
                  subst hq
                  have := this _ (List.mem_of_getElem? hc)
                  simp [flatV] at this
            · match p, k2 with
              | [], _ =>
                intro sz' m' cs' hq
                simp only [Lk.upd, if_true, nget, HV.osl.injEq] at hq
                obtain ⟨rfl, rfl, rfl⟩ := hq
                obtain ⟨r1, a9, cap9, r2, r3⟩ := k5 _ _ _ (by rw [nget]; exact hst)
                rw [b1] at r2
                cases r2
                exact ⟨r1, _, _, by simp [rnav], r3⟩
              | [q], _ =>
                intro sz' m' cs' hq
                simp only [Lk.upd, if_true, nget] at hq
                have := List.all_eq_true.1 (show allFlat (cs ++ ws) = true by simp [allFlat] at hcf hwf ⊢; exact ⟨hcf, hwf⟩)
                rw [List.getD_eq_getElem?_getD] at hq
                cases hc : (cs ++ ws)[q]? with
                | none => rw [hc] at hq; cases hq
                | some v =>
                  rw [hc] at hq
                  simp only [Option.getD_some] at hq
                  subst hq
                  have := this _ (List.mem_of_getElem? hc)
                  simp [flatV] at this
          · rename_i p off
            obtain ⟨k1, k2, k3, k4⟩ := hv
            refine ⟨by omega, k2, k3, ?_⟩
            match p, k2 with
            | [], _ =>
              intro _
              obtain ⟨rvn, g9, o9, r1, r2, r3⟩ := k4 (by rw [nget, hst]; trivial)
              rw [b1] at r1
              cases r1
              exact ⟨.slice (some ⟨g, oo, none⟩) (n + m) cap, g9, o9, by simp [rnav], by simpa [rbase] using r2, r3⟩
            | [q], _ =>
              intro hq
              exfalso
              simp only [Lk.upd, if_true, nget] at hq
              have := List.all_eq_true.1 (show allFlat (cs ++ ws) = true by simp [allFlat] at hcf hwf ⊢; exact ⟨hcf, hwf⟩)
              rw [List.getD_eq_getElem?_getD] at hq
              cases hc : (cs ++ ws)[q]? with
              | none => rw [hc] at hq; exact hq
              | some v =>
                rw [hc] at hq
                simp only [Option.getD_some] at hq
                have := this _ (List.mem_of_getElem? hc)
                cases v <;> simp [flatV] at this <;> exact hq
      · have hrv : rvs = (cur.toList.drop oo).take (n * i.size) := by rw [g3, g2]
        have hfc : (Builtin.firstCells i.size n (.slice (some ⟨g, oo, none⟩) n c)).run P w.drew = .ok rvs.toArray w.drew :=
          run_firstCells_some (P := P) w.drew i.size n _ n c _ (by rw [← g7'.length, g2]) (by simpa using cells_at g1 (o := oo) (off := 0) (by simpa using hrv))
        obtain ⟨r, w', q1, q2⟩ := cpy hfc (by omega) g7' g2
        exact ⟨r, w', q1, .inr q2⟩

theorem trOp_app {o : Oper} {flat : Bool} {sz bytes : Nat} {x y : HX} (h : trOp P o = .app flat sz bytes x y) : ∃ c s v t tx e e' i z, o.op = .call c ∧ c.callee = .builtin .append ∧ c.args.toList = [s, v] ∧ c.argTypes.toList = [t, tx] ∧ P.underlying t = some (.slice e) ∧ P.underlying tx = some (.slice e') ∧ P.info? e = some i ∧ i.zero = some z ∧ z.cells.size = i.size ∧
    sz = i.size ∧ bytes = i.bytes ∧ x = trX s ∧ y = trX v := by
  unfold trOp at h
  repeat' split at h
  all_goals (first | (cases h; done) | skip)
  cases h
  exact ⟨_, _, _, _, _, _, _, _, _, ‹_›, ‹_›, ‹_›, ‹_›, ‹_›, ‹_›, ‹_›, ‹_›, ‹_›, rfl, rfl, rfl, rfl⟩
theorem SRel.same {s s' : St} (h : SRel E N s a w) (h1 : s.S = s'.S) (h2 : s.M = s'.M) : SRel E N s' a w := by
  obtain ⟨loc, fp, h⟩ := h
  exact ⟨loc, fp, h1 ▸ h2 ▸ h⟩
theorem SRel.freeze {s : St} (id : Nat) (h : SRel E N s a w) : SRel E N (freeze id s) a w := Weak.freeze id { s with nx := N } E a w h

theorem app_sem {s : St} {i t : Nat} {sz bytes n m id : Nat} {x y : HX} {cs ws : List HV} {v : HV} {sd : Prop} {K : St → Prop} {sl' : List (Nat × HV)} (hx : ev s.sl x = .ref id [] sz 0 n) (hst : aget id s.st = .osl sz n cs) (hcf : allFlat cs = true) (hy : ev s.sl y = v)
    (hn : newsOf (fun j => aget j s.st) true sz v = (m, ws, [], sd)) (hs : sd) (hwf : allFlat ws = true) (hm0 : 0 < m) (hb : (n + m) * bytes ≤ 140737488355328) (hm : n + m ≤ maxLen)
    (h1 : (freeze (s.nx + stride * i) (freeze id ⟨aput t (.ref id [] sz 0 (n + m)) s.sl, aput id (.osl sz (n + m) (cs ++ ws)) s.st, s.nx⟩)).S = fun j => aget j sl')
    (h2 : (freeze (s.nx + stride * i) (freeze id ⟨aput t (.ref (s.nx + stride * i) [] sz 0 (n + m)) s.sl, aput (s.nx + stride * i) (.osl sz (n + m) (cs ++ ws)) s.st, s.nx⟩)).S = fun j => aget j sl')
    (hK : K ⟨sl', aput (s.nx + stride * i) .dead (aput id .dead s.st), s.nx⟩) : opSem P s i (some t) (.app true sz bytes x y) K := by
  intro E ro a w next Q hd ho hr hnext
  have hdst : ro.dst = some t := hd
  have hop : trOp P ro = .app true sz bytes x y := by
    unfold trOper at ho
    by_cases h : (ro.dst.all fun d => E.ok d) = true
    · simpa [h] using ho
    · simp [h] at ho
  have hok : E.ok t = true := by
    unfold trOper at ho
    by_cases h : (ro.dst.all fun d => E.ok d) = true
    · simpa [hdst] using h
    · simp [h] at ho
  obtain ⟨c, s0, v0, ty, tx, e, e', inf, z, q1, q2, q3, q4, q5, q6, q7, q8, q9, rfl, rfl, rfl, rfl⟩ := trOp_app hop
  obtain ⟨loc, fp, hr⟩ := hr
  have hxv := hr.val s0
  have hyv := hr.val v0
  rw [← ev_evL] at hxv hyv
  rw [hx] at hxv
  rw [hy] at hyv
  obtain ⟨r, w', hrun, hA⟩ := app_both (P := P) (ty := ro.type) hr (Nat.le_refl _) q5 q6 q7 q8 q9 hxv hst hcf hyv hn hs hwf hm0 hb hm
  have hdo : (execOp a.eval ro).run P w = .ok (.value r) w' := by
    obtain ⟨dst, op, type, pos, after, guard⟩ := ro
    simp only at q1
    subst q1
    obtain ⟨callee, args, argTypes⟩ := c
    simp only at q2 q3 q4
    subst q2
    obtain ⟨args⟩ := args
    obtain ⟨argTypes⟩ := argTypes
    simp only at q3 q4
    subst q3 q4
    have e1 : (Builtin.append_ { toList := [ty, tx] } type #[a.eval s0, a.eval v0]).run P w = .ok r w' := hrun
    simp [execOp, resolve, invoke, builtin, e1]
  unfold Oper.wp
  rw [hdo]
  have hM : ∀ u : List (Nat × HV), (fun j => aget j (aput (s.nx + stride * i) .dead (aput id .dead s.st))) = fun j => aget j (aput (s.nx + stride * i) .dead (aput id .dead s.st)) := fun _ => rfl
  have fin : ∀ s2 : St, SRel E (s.nx + stride * i + 1) s2 (a.put (some t) r) w' → (freeze (s.nx + stride * i) (freeze id s2)).S = (fun j => aget j sl') → (freeze (s.nx + stride * i) (freeze id s2)).M = (fun j => aget j (aput (s.nx + stride * i) .dead (aput id .dead s.st))) → next (a.put (some t) r) w' := by
    intro s2 hs2 e1 e2
    have h3 := ((hs2.freeze id).freeze (s.nx + stride * i)).same (s' := ⟨sl', aput (s.nx + stride * i) .dead (aput id .dead s.st), s.nx⟩) e1 e2
    exact hnext ⟨sl', aput (s.nx + stride * i) .dead (aput id .dead s.st), s.nx⟩ _ _ rfl (h3.up (by unfold stride; omega)) hK
  show next (a.put ro.dst r) w'
  rw [hdst]
  rcases hA with hA | hA
  · have h3 := SRel.done (s := s) (d := some t) hA (fun t' ht => by cases ht; exact hok)
    refine fin _ h3 h1 ?_
    funext j
    show aget j (aput _ _ (aput id .dead (aput id _ s.st))) = _
    simp only [aget_aput]
    split
    · rfl
    · split <;> rfl
  · have h3 := SRel.done (s := s) (d := some t) hA (fun t' ht => by cases ht; exact hok)
    refine fin _ h3 h2 ?_
    funext j
    show aget j (aput _ _ (aput id .dead (aput _ _ s.st))) = _
    simp only [aget_aput]
    split
    · rfl
    · split <;> rfl
end

section
variable {P : Program} {all r : List HOper} {i : Nat} {k : List HI} {rs : List Nat} {K : HV → Prop} {sl sl1 sl' st : List (Nat × HV)} {nx : Nat} {x y : HX} {t id sz bytes n m fr q : Nat} {cs ws cs' : List HV} {v : HV} {sd : Prop}
theorem freeze_S (id : Nat) (s : St) : (freeze id s).S = fun j => (s.S j).thaw (fun i => i == id) s.M := by funext j; exact aget_map_thaw _ _ _ _
theorem freeze_M (id : Nat) (s : St) : (freeze id s).M = fun j => if id = j then .dead else s.M j := by funext j; exact aget_aput id j .dead s.st
theorem freeze_cons (fr id t j : Nat) (v u : HV) : (freeze fr (freeze id ⟨aput t v sl, aput j u st, nx⟩)).S = (freeze fr (freeze id ⟨(t, v) :: sl, (j, u) :: st, nx⟩)).S := by
  have e1 : St.S ⟨aput t v sl, aput j u st, nx⟩ = St.S ⟨(t, v) :: sl, (j, u) :: st, nx⟩ := by funext k; exact (aget_cons k t v sl).symm
  have e2 : St.M ⟨aput t v sl, aput j u st, nx⟩ = St.M ⟨(t, v) :: sl, (j, u) :: st, nx⟩ := by funext k; exact (aget_cons k j u st).symm
  rw [freeze_S, freeze_S, freeze_M, freeze_S, freeze_S, freeze_M, e1, e2]
/-- An append behind which both rows may only be read. -/
theorem F_appF [ok : Ok (HS P) k] (hf : nx + stride * i = fr) (hx : ev sl x = .ref id [] sz 0 n) (hst : aget id st = .osl sz n cs) (hcf : allFlat cs = true) (hy : ev sl y = v)
    (hn : newsOf (fun j => aget j st) true sz v = (m, ws, [], sd)) (hs : sd) (hwf : allFlat ws = true) (hm0 : 0 < m) (hb : (n + m) * bytes ≤ 140737488355328) (hm : n + m ≤ maxLen) (hq : n + m = q) (hcs : cs ++ ws = cs')
    (h1 : (freeze fr (freeze id ⟨(t, .ref id [] sz 0 q) :: sl, (id, .osl sz q cs') :: st, nx⟩)).sl = sl')
    (h2 : (freeze fr (freeze id ⟨(t, .ref fr [] sz 0 q) :: sl, (fr, .osl sz q cs') :: st, nx⟩)).sl = sl')
    (h : G P (HS P) all r (i + 1) k rs K sl' ((fr, .dead) :: (id, .dead) :: st) nx) : G P (HS P) all (⟨some t, .app true sz bytes x y, none⟩ :: r) i k rs K sl st nx := by
  subst hf hq hcs
  refine hx_sem (app_sem (sl' := sl') (s := ⟨sl, st, nx⟩) hx hst hcf hy hn hs hwf hm0 hb hm ?_ ?_ ?_)
  · rw [← h1]; exact freeze_cons _ _ _ _ _ _
  · rw [← h2]; exact freeze_cons _ _ _ _ _ _
  · refine hx_eqv ok.mono ok.plain ?_ h
    refine ⟨rfl, ?_, rfl⟩
    funext j
    simp only [St.M, aget, aget_aput]

end
end Go.HL
end
