import Derived.Test.YtjlidhijnohkbaaHl4
import Derived.Maps.RangeRun
set_option linter.unusedSimpArgs false
set_option linter.unusedVariables false
section
namespace Go.HL
def nS:=FuncId->List HV->Option HV
def Oj (F:nS) (s:St) (i:Nat) (o:HOper):Option St :=
 match o.op.map (ev s.sl) with
 | .call f xs=>match F f (bI bn (fun i=>au i s.st) xs) with
  | some r=>let u:=unpack (s.nx+stride*i) r
   if (aI xs || r.noRd)&&decide (u.2.2<=s.nx+stride*(i+1))&&r.deep.isEmpty then some ((s.upd u.2.1).put o.dst u.1) else none
  | none=>none
 | .callv (.fn f cap) xs=>match F f (bI bn (fun i=>au i s.st) (xs++cap)) with
  | some r=>let u:=unpack (s.nx+stride*i) r
   if (aI (xs++cap) || r.noRd)&&decide (u.2.2<=s.nx+stride*(i+1))&&r.deep.isEmpty then some ((s.upd u.2.1).put o.dst u.1) else none
  | none=>none
 | op=>if jS (fun i=>au i s.st) op then (let r:=ae (fun i=>au i s.st) (s.nx+stride*i) op;some ((s.upd r.2.1).put o.dst r.1)) else none
def xI (F:nS) (all:List HOper):List HOper->Nat->St->Option St
 | [],_,s=>some s
 | o::r,i,s =>
  match o.guard with
  | none=>match Oj F s i o with
   | some s'=>xI F all r (i+1) s'
   | none=>none
  | some (j,want)=>match ((all[j]?).bind (·.dst)).map (fun d=>au d s.sl) with
   | some (.bool b)=>if b=want then (match Oj F s i o with
    | some s'=>xI F all r (i+1) s'
    | none=>none) else xI F all r (i+1) (s.put o.dst (.tup []))
   | some (.tup [])=>xI F all r (i+1) (s.put o.dst (.tup []))
   | _=>none
def DF (F:nS) (f:FuncId) (args:List HV) (r:HV):Prop:=F f args=some r
theorem zJ {F:nS} {C:CallSpec} (hC:∀f args r K,F f args=some r->r.deep=[]->K r->C f args K) {s s':St} {i:Nat} {o:HOper} {K:St->Prop} (h:Oj F s i o=some s') (hK:K s'):hop C s i o K:=by
 unfold Oj at h
 refine Or.inl ?_
 unfold hop0
 split at h
 ·rename_i f xs hop
  rw [hop]
  simp only
  split at h
  ·rename_i r hr
   simp only at h
   split at h
   ·rename_i hc
    simp only [aG,decide_eq_true_eq,qc] at hc
    cases h
    exact hC _ _ r _ hr hc.2 ⟨hc.1.1,hc.1.2,hK⟩
   ·cases h
  ·cases h
 ·rename_i f cap xs hop
  rw [hop]
  simp only
  split at h
  ·rename_i r hr
   simp only at h
   split at h
   ·rename_i hc
    simp only [aG,decide_eq_true_eq,qc] at hc
    cases h
    exact hC _ _ r _ hr hc.2 ⟨hc.1.1,hc.1.2,hK⟩
   ·cases h
  ·cases h
 ·rename_i op h1 h2
  split
  ·rename_i f xs heq;exact absurd heq (h1 f xs)
  ·rename_i f cap xs heq;exact absurd heq (h2 f cap xs)
  ·split at h
   ·rename_i hb
    cases h
    exact ⟨IY hb,hK⟩
   ·cases h
theorem xQ {F:nS} {C:CallSpec} (hC:∀f args r K,F f args=some r->r.deep=[]->K r->C f args K) {all:List HOper} {K:St->Prop}:∀ {r:List HOper} {i:Nat} {s s':St},xI F all r i s=some s'->K s'->hops C all r i K s:=by
 intro r
 induction r with
 | nil=>intro i s s' h hK;cases h;exact hK
 | cons o r ih =>
  intro i s s' h hK
  simp only [xI] at h
  simp only [hops]
  split at h
  ·rename_i hg
   rw [hg]
   simp only
   split at h
   ·rename_i s1 h1
    exact zJ hC h1 (ih h hK)
   ·cases h
  ·rename_i j want hg
   rw [hg]
   simp only
   split at h
   ·rename_i b hb
    rw [hb]
    simp only
    split at h
    ·rename_i hbw
     split at h
     ·rename_i s1 h1
      exact ⟨fun _=>zJ hC h1 (ih h hK),fun hne=>absurd hbw hne⟩
     ·cases h
    ·rename_i hbw
     exact ⟨fun he=>absurd he hbw,fun _=>ih h hK⟩
   ·rename_i hb
    rw [hb]
    exact ih h hK
   ·cases h
def Iz (F:nS) (s:St) (i:Nat) (o:HOper):Option (List dJ×HV) :=
 match o.op.map (ev s.sl) with
 | .call f xs=>match F f (bI bn (fun i=>au i s.st) xs) with
  | some r=>let u:=unpack (s.nx+stride*i) r
   if (aI xs || r.noRd)&&decide (u.2.2<=s.nx+stride*(i+1))&&r.deep.isEmpty then some (u.2.1,u.1) else none
  | none=>none
 | .callv (.fn f cap) xs=>match F f (bI bn (fun i=>au i s.st) (xs++cap)) with
  | some r=>let u:=unpack (s.nx+stride*i) r
   if (aI (xs++cap) || r.noRd)&&decide (u.2.2<=s.nx+stride*(i+1))&&r.deep.isEmpty then some (u.2.1,u.1) else none
  | none=>none
 | op=>if jS (fun i=>au i s.st) op then (let r:=ae (fun i=>au i s.st) (s.nx+stride*i) op;some (r.2.1,r.1)) else none
def uC (F:nS) (masks:List Nat) (all:List HOper):List HOper->Nat->pU->St->Option St
 | [],_,_,s=>some s
 | o::r,i,log,s =>
  match o.guard with
  | none=>match Iz F s i o with
   | some (us,v)=>if zC masks all i o us s.S log then uC F masks all r (i+1) ((i,vZ o s.S us,qg o s.S)::log) ((s.upd us).put o.dst v) else none
   | none=>none
  | some (j,want)=>match ((all[j]?).bind (·.dst)).map (fun d=>au d s.sl) with
   | some (.bool b)=>if b=want then (match Iz F s i o with
    | some (us,v)=>if zC masks all i o us s.S log then uC F masks all r (i+1) ((i,vZ o s.S us,qg o s.S)::log) ((s.upd us).put o.dst v) else none
    | none=>none) else if zC masks all i o [] s.S log then uC F masks all r (i+1) ((i,[],qg o s.S)::log) (s.put o.dst (.tup [])) else none
   | some (.tup [])=>if zC masks all i o [] s.S log then uC F masks all r (i+1) ((i,[],qg o s.S)::log) (s.put o.dst (.tup [])) else none
   | _=>none
theorem xE {F:nS} {C:o9} (hC:∀f args r K,F f args=some r->r.deep=[]->K r->C f args K) {s:St} {us:List dJ} {v:HV} {i:Nat} {o:HOper} {K:List dJ->HV->Prop} (h:Iz F s i o=some (us,v)) (hK:K us v):La C s i o K:=by
 unfold Iz at h
 unfold La
 split at h
 ·rename_i f xs hop
  rw [hop]
  simp only
  split at h
  ·rename_i r hr
   simp only at h
   split at h
   ·rename_i hc
    simp only [aG,decide_eq_true_eq,qc] at hc
    cases h
    exact hC _ _ r _ hr hc.2 ⟨hc.1.1,hc.1.2,hK⟩
   ·cases h
  ·cases h
 ·rename_i f cap xs hop
  rw [hop]
  simp only
  split at h
  ·rename_i r hr
   simp only at h
   split at h
   ·rename_i hc
    simp only [aG,decide_eq_true_eq,qc] at hc
    cases h
    exact hC _ _ r _ hr hc.2 ⟨hc.1.1,hc.1.2,hK⟩
   ·cases h
  ·cases h
 ·rename_i op h1 h2
  split
  ·rename_i f xs heq;exact absurd heq (h1 f xs)
  ·rename_i f cap xs heq;exact absurd heq (h2 f cap xs)
  ·split at h
   ·rename_i hb
    cases h
    exact ⟨IY hb,hK⟩
   ·cases h
theorem DY {F:nS} {C:o9} (hC:∀f args r K,F f args=some r->r.deep=[]->K r->C f args K) {masks:List Nat} {all:List HOper} {K:St->Prop}:∀ {r:List HOper} {i:Nat} {log:pU} {s s':St},uC F masks all r i log s=some s'->K s'->qh C masks all r i log K s:=by
 intro r
 induction r with
 | nil=>intro i log s s' h hK;cases h;exact hK
 | cons o r ih =>
  intro i log s s' h hK
  simp only [uC] at h
  simp only [qh]
  split at h
  ·rename_i hg
   rw [hg]
   simp only
   split at h
   ·rename_i us v h1
    split at h
    ·rename_i hc
     exact xE hC h1 ⟨hc,ih h hK⟩
    ·cases h
   ·cases h
  ·rename_i j want hg
   rw [hg]
   simp only
   split at h
   ·rename_i b hb
    rw [hb]
    simp only
    split at h
    ·rename_i hbw
     split at h
     ·rename_i us v h1
      split at h
      ·rename_i hc
       exact ⟨fun _=>xE hC h1 ⟨hc,ih h hK⟩,fun hne=>absurd hbw hne⟩
      ·cases h
     ·cases h
    ·rename_i hbw
     split at h
     ·rename_i hc
      exact ⟨fun he=>absurd he hbw,fun _=>⟨hc,ih h hK⟩⟩
     ·cases h
   ·rename_i hb
    rw [hb]
    simp only
    split at h
    ·rename_i hc
     exact ⟨hc,ih h hK⟩
    ·cases h
   ·cases h
def sorted:List (Nat×HV)->Bool
 | []=>true
 | (k,_)::r=>(match r with|[]=>true|(k2,_)::_=>decide (k<k2))&&sorted r
def jW:List (Nat×HV)->List (Nat×HV)
 | []=>[]
 | (k,v)::r=>match v with|.dead=>jW r|v=>(k,v)::jW r
def St.gc (s:St):St:=if sorted s.st then { s with st:=jW s.st } else s
theorem G8 {l:List (Nat×HV)} (h:sorted l=true) {k:Nat} (hk:∀p∈l,k<p.1 ):au k l=.dead:=by
 induction l with
 | nil=>rfl
 | cons p r ih =>
  obtain ⟨k2,v⟩:=p
  simp only [sorted,aG] at h
  have:=hk (k2,v) (by simp)
  simp only at this
  simp only [au]
  rw [if_neg (by omega)]
  exact ih h.2 (fun p hp=>hk p (nG _ hp))
theorem J3 {k:Nat} {v:HV} {r:List (Nat×HV)} (h:sorted ((k,v)::r)=true):∀p∈r,k<p.1:=by
 induction r generalizing k v with
 | nil=>simp
 | cons q r ih =>
  obtain ⟨k2,v2⟩:=q
  simp only [sorted,aG,decide_eq_true_eq] at h
  intro p hp
  rcases zl008.1 hp with rfl|hp
  ·exact h.1
  ·have:=ih (k:=k2) (v:=v2) (by simp only [sorted,aG];exact h.2) p hp
   omega
theorem AB {l:List (Nat×HV)} (h:sorted l=true) (t:Nat):au t (jW l)=au t l:=by
 induction l with
 | nil=>rfl
 | cons p r ih =>
  obtain ⟨k,v⟩:=p
  have hr:sorted r=true:=by simp only [sorted,aG] at h;exact h.2
  have hlt:=J3 h
  have hd:v=.dead\/jW ((k,v)::r)=(k,v)::jW r:=by cases v<;>simp [jW]
  rcases hd with rfl|hd
  ·simp only [jW,au]
   rw [ih hr]
   split
   ·rename_i hk;subst hk;exact G8 hr hlt
   ·rfl
  ·rw [hd];simp only [au,ih hr]
theorem Weak.gc (s:St):Weak s s.gc:=by
 unfold St.gc
 split
 ·rename_i h
  intro E a w ⟨loc,fp,hr⟩
  have hM:(St.M { s with st:=jW s.st })=s.M:=by funext t;exact AB h t
  refine ⟨loc,fp,?_⟩
  rw [hM]
  exact hr
 ·exact Weak.refl s
def ownB:HV->Bool
 | .osl ..=>true
 | .optr _=>true
 | _=>false
def PT (f:HV->Bool):HV->Bool
 | .osl _ _ cs=>cs.any f
 | .optr cs=>cs.any f
 | _=>false
def St.af (s:St):St:=match s.st.find? (fun p=>PT (PT ownB) p.2) with
 | some p=>freeze p.1 s
 | none=>s
theorem St.af_weak (s:St):Weak s s.af:=by
 unfold St.af
 split
 ·exact Weak.freeze _ s
 ·exact Weak.refl s
def SB:HCode->Bool
 | .ret=>true
 | _=>false
def Lu:List (Nat×HV)->St->St
 | [],s=>s
 | (id,_)::r,s=>Lu r (unbox id s)
theorem zU:∀ (l:List (Nat×HV)) (s:St),Weak s (Lu l s)
 | [],s=>Weak.refl s
 | (id,_)::r,s=>(Weak.unbox id s).trans (zU r _)
def St.ub (b:HCode) (s:St):St:=if SB b then Lu s.st s else s
theorem St.ub_weak (b:HCode) (s:St):Weak s (s.ub b):=by
 unfold St.ub;split
 ·exact zU _ _
 ·exact Weak.refl s
def Az (F:nS):Nat->HCode->St->Option (HE×St)
 | 0,_,_=>none
 | _+1,.skip,s=>some (.normal,s)
 | _+1,.region none ops,s=>match xI F ops ops 0 s with
  | some s1=>some (.normal,{ s1 with nx:=s1.nx+stride*ops.length })
  | none=>none
 | _+1,.region (some m) ops,s=>if kU m ops then (match (if Eh m ops then xI F ops ops 0 s else uC F m ops ops 0 [] s) with
  | some s1=>some (.normal,{ s1 with nx:=s1.nx+stride*ops.length })
  | none=>none) else none
 | n+1,.seq a b,s=>match Az F n a s with
  | some (.normal,s1)=>Az F n b (s1.af.ub b)
  | r=>r
 | n+1,.cond c a b,s=>match ev s.sl c with
  | .bool true=>Az F n a s
  | .bool false=>Az F n b s
  | _=>none
 | n+1,.block id b,s=>match Az F n b s with
  | some (.exit i,s1)=>if i=id then some (.normal,s1) else some (.exit i,s1)
  | r=>r
 | n+1,.loop b,s=>match Az F n b s.gc with
  | some (.normal,s1)=>Az F n (.loop b) s1
  | r=>r
 | _+1,.exit id,s=>some (.exit id,s)
 | _+1,.ret,s=>some (.ret,s)
 | _+1,.bad,_=>none
theorem iM {p:Nat->Prop} (h:∃m,p m):∃m,p m/\∀k,p k->m<=k:=by
 obtain ⟨m,hm⟩:=h
 induction m using Nat.strongRecOn with
 | _ m ih =>
  by_cases h:∃k,k<m/\p k
  ·obtain ⟨k,h1,h2⟩:=h;exact ih k h1 h2
  ·exact ⟨m,hm,fun k hk=>by
    rcases dL k m with h1|h1
    ·exact absurd ⟨k,h1,hk⟩ h
    ·exact h1⟩
open Classical in
theorem Js {P:Program} {F:nS} (hC:∀f args r,F f args=some r->HT P f args (·=r)):∀ (n:Nat) (c:HCode) (s:St) (e:HE) (s':St) (Q:HE->St->Prop),Az F n c s=some (e,s')->Q e s'->hcode P c Q s:=by
 have hC1:∀f args r (K:HV->Prop),F f args=some r->r.deep=[]->K r->HT P f args K:=fun f args r K h _ hk=>(hC f args r h).mono fun r' e=>by subst e;exact hk
 have hC2:∀f args r (K:HV->Prop),F f args=some r->r.deep=[]->K r->CS P (DF F) f args K:=fun f args r K h hd hk=>⟨(hC f args r h).mono fun r' e=>by subst e;exact h,⟨r,h,hd⟩,fun r' h' _=>by
  have:some r=some r':=h.symm.trans h'
  cases this;exact hk⟩
 intro n
 induction n using Nat.strongRecOn with
 | _ n IH =>
 cases n with
 | zero=>intro c s e s' Q h;cases h
 | succ n =>
  have ih:=IH n (vV n)
  intro c s e s' Q h hQ
  cases c with
  | skip=>cases h;exact hQ
  | region inc ops =>
   cases inc with
   | none =>
    simp only [Az] at h
    split at h
    ·rename_i s1 h1
     cases h
     exact BZ (xQ hC1 h1 hQ)
    ·cases h
   | some m =>
    simp only [Az] at h
    split at h
    ·rename_i hst
     split at h
     ·rename_i s1 h1
      cases h
      refine ⟨hst,fun _=>.inl ⟨DS.of (DF F),?_⟩⟩
      rw [A8]
      split at h1
      ·rename_i hns
       have h2:hops (CS P (DF F)) ops ops 0 (fun s1=>Q .normal { s1 with nx:=s1.nx+stride*ops.length }) s:=xQ hC2 h1 hQ
       exact IZ hns ops 0 [] s rfl rfl (by simp) h2
      ·have h2:qh (CS P (DF F)) m ops ops 0 [] (fun s1=>Q .normal { s1 with nx:=s1.nx+stride*ops.length }) s:=DY hC2 h1 hQ
       exact MG ops 0 [] s rfl rfl h2
     ·cases h
    ·cases h
  | seq a b =>
   simp only [Az] at h
   split at h
   ·rename_i s1 h1
    exact ih a s .normal s1 _ h1 ⟨s1.af.ub b,(St.af_weak s1).trans (St.ub_weak b _),ih b (s1.af.ub b) e s' Q h hQ⟩
   ·rename_i r hr
    refine ih a s e s' _ h ?_
    cases e with
    | normal=>exact absurd h (hr s')
    | exit i=>exact hQ
    | ret=>exact hQ
  | cond c a b =>
   simp only [Az] at h
   simp only [hcode]
   split at h
   ·rename_i hb
    rw [hb]
    exact ⟨fun _=>⟨s,Weak.refl s,ih a s e s' Q h hQ⟩,fun h=>by cases h⟩
   ·rename_i hb
    rw [hb]
    exact ⟨fun h=>Bool.noConfusion h,fun _=>⟨s,Weak.refl s,ih b s e s' Q h hQ⟩⟩
   ·cases h
  | block id b =>
   simp only [Az] at h
   split at h
   ·rename_i i s1 h1
    refine ih b s (.exit i) s1 _ h1 ?_
    simp only
    split at h
    ·rename_i hi;cases h;rw [if_pos hi];exact hQ
    ·rename_i hi;cases h;rw [if_neg hi];exact hQ
   ·rename_i r hr
    refine ih b s e s' _ h ?_
    cases e with
    | normal=>exact hQ
    | exit i=>exact absurd h (hr i s')
    | ret=>exact hQ
  | loop b =>
   let I:St->Prop:=fun t=>∃m,m<=n+1/\Az F m (.loop b) t=some (e,s')
   let μ:St->Nat:=fun t=>if ht:∃m,Az F m (.loop b) t=some (e,s') then Classical.choose (iM ht) else 0
   refine ⟨I,μ,⟨s,Weak.refl s,n+1,aP _,h⟩,?_⟩
   intro t ⟨m,hm,ht⟩
   have hex:∃m,Az F m (.loop b) t=some (e,s'):=⟨m,ht⟩
   have hspec:=ML (iM hex)
   have hmin:=hspec.2 m ht
   have hfind:=hspec.1
   have hμ:μ t=Classical.choose (iM hex):=dif_pos hex
   rw [hμ]
   clear hspec
   generalize Classical.choose (iM hex)=q at hmin hfind
   cases q with
   | zero=>cases hfind
   | succ q =>
    refine ⟨t.gc,Weak.gc t,?_⟩
    have hq:q<=n:=by omega
    have mono:∀ (Q':HE->St->Prop) e1 s1,Az F q b t.gc=some (e1,s1)->Q' e1 s1->hcode P b Q' t.gc:=fun Q' e1 s1 h1 h2=>IH q (by omega) b t.gc e1 s1 Q' h1 h2
    simp only [Az] at hfind
    split at hfind
    ·rename_i s1 h1
     refine mono _ .normal s1 h1 ⟨s1,Weak.refl s1,⟨q,by omega,hfind⟩,?_⟩
     have hex1:∃m,Az F m (.loop b) s1=some (e,s'):=⟨q,hfind⟩
     have h5:μ s1=Classical.choose (iM hex1):=dif_pos hex1
     rw [h5]
     have:=(ML (iM hex1)).2 q hfind
     omega
    ·rename_i r hr
     refine mono _ e s' hfind ?_
     cases e with
     | normal=>exact absurd hfind (hr s')
     | exit i=>exact hQ
     | ret=>exact hQ
  | exit id=>cases h;exact hQ
  | ret=>cases h;exact hQ
  | bad=>cases h
abbrev Pi:=List (FuncId×HCode×List Nat×Nat)
def Fq:Pi->FuncId->Option (HCode×List Nat×Nat)
 | [],_=>none
 | (g,x)::r,f=>if g=f then some x else Fq r f
def zx (L:Lk):List HV->Bool
 | []=>true
 | v::r=>(match v with
  | .agg _=>false
  | .tup _=>false
  | .fn _ _=>false
  | .dead=>true
  | v=>mO L v)&&zx (L.upd (takeD L v).2.1) r
theorem Dc {L:Lk} {l:List HV} (h:zx L l=true):(ak L l).2.2:=by
 induction l generalizing L with
 | nil=>simp [ak]
 | cons v r ih =>
  simp only [zx,aG] at h
  simp only [ak]
  refine ⟨?_,ih h.2⟩
  have h1:=h.1
  cases v with
  | agg _=>cases h1
  | tup _=>cases h1
  | fn _ _=>cases h1
  | dead=>simp [takeD]
  | _=>simp only [takeD];exact wH h1
def UO (tbl:Pi) (n:Nat):Nat->nS
 | 0=>fun _ _=>none
 | d+1=>fun f args=>match Fq tbl f with
  | none=>none
  | some (c,rs,T)=>if args.length<=T then (match Az (UO tbl n d) n c ⟨aB 0 args,[],0⟩ with
   | some (e,s)=>(match e with
    | .exit _=>none
    | _=>if zx s.M (rs.map fun r=>au r s.sl) then some (fJ (ak s.M (rs.map fun r=>au r s.sl)).1) else none)
   | none=>none) else none
def tblOK (P:Program) (tbl:Pi):Prop:=∀e∈tbl,bf P e.1=some e.2
theorem tblOK.nil {P:Program}:tblOK P []:=by intro e h;cases h
theorem tblOK.cons {P:Program} {f c rs T} {tbl:Pi} (h:bf P f=some (c,rs,T)) (h2:tblOK P tbl):tblOK P ((f,c,rs,T)::tbl):=by
 intro e he
 rcases zl008.1 he with rfl|he
 ·exact h
 ·exact h2 e he
theorem MP {P:Program} {tbl:Pi} (h:tblOK P tbl) {f:FuncId} {x} (hx:Fq tbl f=some x):bf P f=some x:=by
 induction tbl with
 | nil=>cases hx
 | cons e r ih =>
  obtain ⟨g,y⟩:=e
  simp only [Fq] at hx
  split at hx
  ·rename_i hg;cases hx;subst hg;exact h (g,x) (by simp)
  ·exact ih (fun e he=>h e (nG _ he)) hx
mutual
def HV.eqb:HV->HV->Bool
 | .int k n,.int k' n'=>decide (k=k')&&decide (n=n')
 | .bool b,.bool b'=>b==b'
 | .nils,.nils=>true
 | .nilp,.nilp=>true
 | .nilf,.nilf=>true
 | .sl n cs,.sl n' cs'=>decide (n=n')&&y8 cs cs'
 | .ptr cs o,.ptr cs' o'=>decide (o=o')&&y8 cs cs'
 | .agg cs,.agg cs'=>y8 cs cs'
 | .tup cs,.tup cs'=>y8 cs cs'
 | .fn f cs,.fn f' cs'=>decide (f=f')&&y8 cs cs'
 | _,_=>false
def y8:List HV->List HV->Bool
 | [],[]=>true
 | a::r,b::q=>HV.eqb a b&&y8 r q
 | _,_=>false
end
mutual
theorem HV.eqb_ok:∀ {a b:HV},HV.eqb a b=true->a=b:=by
 intro a b h
 unfold HV.eqb at h
 split at h
 ·simp at h;rw [h.1,h.2]
 ·simp at h;rw [h]
 ·rfl
 ·rfl
 ·rfl
 ·simp only [aG,decide_eq_true_eq] at h;rw [h.1,pW h.2]
 ·simp only [aG,decide_eq_true_eq] at h;rw [h.1,pW h.2]
 ·rw [pW h]
 ·rw [pW h]
 ·simp only [aG,decide_eq_true_eq] at h;rw [h.1,pW h.2]
 ·cases h
theorem pW:∀ {a b:List HV},y8 a b=true->a=b:=by
 intro a b h
 cases a with
 | nil=>cases b with
  | nil=>rfl
  | cons _ _=>simp [y8] at h
 | cons x r=>cases b with
  | nil=>simp [y8] at h
  | cons y q =>
   simp only [y8,aG] at h
   rw [HV.eqb_ok h.1,pW h.2]
end
abbrev KW:=List (FuncId×List HV×HV)
def Dh:KW->nS
 | [],_,_=>none
 | (g,a,v)::r,f,args=>if g=f then (if y8 a args then some v else Dh r f args) else Dh r f args
def memoOK (P:Program) (m:KW):Prop:=∀e∈m,HT P e.1 e.2.1 (·=e.2.2)
theorem memoOK.nil {P:Program}:memoOK P []:=by intro e h;cases h
theorem memoOK.cons {P:Program} {f:FuncId} {a:List HV} {v:HV} {m:KW} (h:HT P f a (·=v)) (h2:memoOK P m):memoOK P ((f,a,v)::m):=by
 intro e he
 rcases zl008.1 he with rfl|he
 ·exact h
 ·exact h2 e he
theorem ES {P:Program} {m:KW} (h:memoOK P m) {f:FuncId} {args:List HV} {r:HV} (hx:Dh m f args=some r):HT P f args (·=r):=by
 induction m with
 | nil=>cases hx
 | cons e q ih =>
  obtain ⟨g,a,v⟩:=e
  simp only [Dh] at hx
  split at hx
  ·rename_i hg
   split at hx
   ·rename_i ha
    cases hx
    subst hg
    obtain rfl:=pW ha
    exact h (g,a,_) (by simp)
   ·exact ih (fun e he=>h e (nG _ he)) hx
  ·exact ih (fun e he=>h e (nG _ he)) hx
def Tm (m:KW) (tbl:Pi) (n:Nat):Nat->nS
 | 0=>Dh m
 | d+1=>fun f args=>match Dh m f args with
  | some r=>some r
  | none=>match Fq tbl f with
   | none=>none
   | some (c,rs,T)=>if args.length<=T then (match Az (Tm m tbl n d) n c ⟨aB 0 args,[],0⟩ with
    | some (e,s)=>(match e with
     | .exit _=>none
     | _=>if zx s.M (rs.map fun t=>au t s.sl) then some (fJ (ak s.M (rs.map fun t=>au t s.sl)).1) else none)
    | none=>none) else none
theorem di {P:Program} (hm:P.follows .mixedOrders=true) {m:KW} (hmm:memoOK P m) {tbl:Pi} (ht:tblOK P tbl) (n:Nat):∀ (d:Nat) (f:FuncId) (args:List HV) (r:HV),Tm m tbl n d f args=some r->HT P f args (·=r):=by
 intro d
 induction d with
 | zero=>intro f args r h;exact ES hmm h
 | succ d ih =>
  intro f args r h
  simp only [Tm] at h
  split at h
  ·rename_i r1 hr1;cases h;exact ES hmm hr1
  ·
   split at h
   ·cases h
   ·rename_i c rs T hc
    split at h
    ·rename_i hl
     split at h
     ·rename_i e s he
      refine HT.of hm (MP ht hc) hl ?_
      refine PS (Weak.refl _) ?_
      refine Js ih n c _ e s _ he ?_
      show finish rs (·=r) e s
      unfold finish
      split at h
      ·cases h
      ·rename_i hne
       split at h
       ·rename_i hb
        cases h
        cases e with
        | exit i=>exact absurd rfl (hne i)
        | normal=>exact ⟨Dc hb,rfl⟩
        | ret=>exact ⟨Dc hb,rfl⟩
       ·cases h
     ·cases h
    ·cases h
end Go.HL
end
section
namespace Go.HL
open Go.RowKit
def Eqv (s s':St):Prop:=s.S=s'.S/\s.M=s'.M/\s.nx=s'.nx
theorem Eqv.refl (s:St):Eqv s s:=⟨rfl,rfl,rfl⟩
theorem Eqv.symm {s s':St} (h:Eqv s s'):Eqv s' s:=⟨h.1.symm,h.2.1.symm,h.2.2.symm⟩
theorem Eqv.upd {s s':St} (h:Eqv s s') (us:List dJ) (d:Option Nat) (v:HV):Eqv ((s.upd us).put d v) ((s'.upd us).put d v):=by
 refine ⟨?_,?_,?_⟩
 ·rw [St.put_S,St.put_S,St.upd_S,St.upd_S,h.1]
 ·rw [St.put_M,St.put_M,St.upd_M,St.upd_M,h.2.1]
 ·rw [St.put_nx,St.put_nx,St.upd_nx,St.upd_nx,h.2.2]
theorem Eqv.put {s s':St} (h:Eqv s s') (d:Option Nat) (v:HV):Eqv (s.put d v) (s'.put d v):=h.upd [] d v
theorem Eqv.weak {s s' s2:St} (h:Eqv s s') (hw:Weak s s2):Weak s' s2:=by
 intro E a w hr
 refine hw E a w ?_
 obtain ⟨h1,h2,h3⟩:=h
 unfold SRel at *
 rw [h1,h2,h3]
 exact hr
theorem II {C:CallSpec} (hC:uq C) {s s':St} {i:Nat} {o:HOper} {K K':St->Prop} (he:Eqv s s') (hK:∀t t',Eqv t t'->K t->K' t') (h:hop C s i o K):hop C s' i o K':=by
 rcases h with h|h
 ·refine .inl ?_
  unfold hop0 at *
  have e1:ev s'.sl=ev s.sl:=by rw [kV,kV,he.1]
  have e2:(fun i=>au i s'.st)=fun i=>au i s.st:=he.2.1.symm
  rw [e1,e2,<- he.2.2]
  split at h
  ·exact hC.ap _ _ _ _ h fun r hr=>⟨hr.1,hr.2.1,hK _ _ (he.upd _ _ _) hr.2.2⟩
  ·exact hC.ap _ _ _ _ h fun r hr=>⟨hr.1,hr.2.1,hK _ _ (he.upd _ _ _) hr.2.2⟩
  ·exact ⟨h.1,hK _ _ (he.upd _ _ _) h.2⟩
 ·exact .inr (hC.eqv _ _ _ _ _ _ he.1 he.2.1 he.2.2 (hC.sem _ _ _ _ _ _ h fun t ht=>hK _ _ (Eqv.refl t) ht))
theorem MW {C:CallSpec} (hC:uq C) {all:List HOper} {K:St->Prop} (hK:∀s s',Eqv s s'->K s->K s'):∀ {r:List HOper} {i:Nat} {s s':St},Eqv s s'->hops C all r i K s->hops C all r i K s':=by
 intro r
 induction r with
 | nil=>intro i s s' he h;exact hK _ _ he h
 | cons o r ih =>
  intro i s s' he h
  have ed:(fun d=>au d s'.sl)=fun d=>au d s.sl:=he.1.symm
  simp only [hops] at h ⊢
  rw [ed]
  split at h
  ·exact II hC he (fun t t' ht hh=>ih ht hh) h
  ·split at h
   ·exact ⟨fun hb=>II hC he (fun t t' ht hh=>ih ht hh) (h.1 hb),fun hb=>ih (he.put o.dst (.tup [])) (h.2 hb)⟩
   ·exact ih (he.put o.dst (.tup [])) h
   ·exact h
def rq:List HI->Bool
 | []=>true
 | .o ..::_=>false
 | .c _::k=>rq k
 | .b _::k=>rq k
 | .l ..::k=>rq k
theorem GN {rs:List Nat} {K:HV->Prop} {e:HE} {s s':St} (he:Eqv s s') (h:finish rs K e s):finish rs K e s':=by
 have e1:∀r,au r s'.sl=au r s.sl:=fun r=>congrFun he.1.symm r
 have e2:(rs.map fun r=>au r s'.sl)=rs.map fun r=>au r s.sl:=by simp only [e1]
 unfold finish at *
 cases e with
 | normal=>simp only at h ⊢;rw [e2,<- he.2.1];exact h
 | ret=>simp only at h ⊢;rw [e2,<- he.2.1];exact h
 | exit i=>exact h
theorem P5 {P:Program} {rs:List Nat} {K:HV->Prop} {k:List HI} (hp:rq k=true):∀ {e:HE} {s s':St},Eqv s s'->hk P k (finish rs K) e s->hk P k (finish rs K) e s':=by
 induction k with
 | nil=>intro e s s' he h;exact GN he h
 | cons a k ih =>
  intro e s s' he h
  cases a with
  | c x =>
   cases e with
   | normal=>obtain ⟨s1,hw,h1⟩:=h;exact ⟨s1,he.weak hw,h1⟩
   | exit i=>exact ih hp he h
   | ret=>exact ih hp he h
  | b id =>
   cases e with
   | normal=>exact ih hp he h
   | exit i =>
    simp only [hk] at h ⊢
    split
    ·rename_i hi;rw [if_pos hi] at h;exact ih hp he h
    ·rename_i hi;rw [if_neg hi] at h;exact ih hp he h
   | ret=>exact ih hp he h
  | o=>cases hp
  | l I μ m =>
   cases e with
   | normal=>obtain ⟨s1,hw,h1⟩:=h;exact ⟨s1,he.weak hw,h1⟩
   | exit i=>exact ih hp he h
   | ret=>exact ih hp he h
section
variable {P:Program} {C:CallSpec} {all r:List HOper} {i:Nat} {k:List HI} {rs:List Nat} {K:HV->Prop}
theorem wP (hC:uq C) (hp:rq k=true) {s s':St} (he:Eqv s s') (h:hx P (.o C all r i::k) (finish rs K) s):hx P (.o C all r i::k) (finish rs K) s':=by
 unfold hx hk at *
 exact MW hC (fun a b hab hh=>P5 hp (s:={ a with nx:=a.nx+stride*all.length }) (s':={ b with nx:=b.nx+stride*all.length }) ⟨hab.1,hab.2.1,congrArg (fun n=>n+stride*all.length) hab.2.2⟩ hh) he h
def BR (sl st:List (Nat×HV)):List dJ->List (Nat×HV)×List (Nat×HV)
 | []=>(sl,st)
 | .put id t::r=>BR sl ((id,t)::st) r
 | .kill id len::r=>BR (sl.map fun p=>(p.1,p.2.kill id len)) st r
def OA (d:Option Nat) (v:HV) (x:List (Nat×HV)×List (Nat×HV)):List (Nat×HV)×List (Nat×HV) :=
 match d with
 | none=>x
 | some d=>((d,v)::x.1,x.2)
theorem Ob (us:List dJ):∀ (sl st:List (Nat×HV)) (nx:Nat) (s:St),Eqv s ⟨sl,st,nx⟩->Eqv (s.upd us) ⟨(BR sl st us).1,(BR sl st us).2,nx⟩:=by
 induction us with
 | nil=>intro sl st nx s h;exact h
 | cons u us ih =>
  intro sl st nx s h
  cases u with
  | put id t =>
   refine ih sl ((id,t)::st) nx _ ⟨h.1,?_,h.2.2⟩
   funext j
   have:au j s.st=au j st:=congrFun h.2.1 j
   show au j (xm id t s.st)=_
   rw [oQ]
   show _=au j ((id,t)::st)
   simp only [au,this]
  | kill id len =>
   refine ih _ st nx _ ⟨?_,h.2.1,h.2.2⟩
   funext j
   have:au j s.sl=au j sl:=congrFun h.1 j
   show au j (s.sl.map _)=au j (sl.map _)
   rw [lh,lh,this]
theorem sW {d:Option Nat} {v:HV} {us:List dJ} {sl st sl' st':List (Nat×HV)} {nx:Nat} (h:OA d v (BR sl st us)=(sl',st')):Eqv ⟨sl',st',nx⟩ ((St.upd ⟨sl,st,nx⟩ us).put d v):=by
 have h1:=Ob us sl st nx ⟨sl,st,nx⟩ (Eqv.refl _)
 cases d with
 | none =>
  simp only [OA] at h
  rw [h] at h1
  exact h1.symm
 | some d =>
  simp only [OA,kD] at h
  obtain ⟨rfl,rfl⟩:=h
  refine Eqv.symm ⟨?_,?_,?_⟩
  ·rw [St.put_S]
   funext t
   have:=congrFun h1.1 t
   show (if some d=some t then v else _)=au t ((d,v)::_)
   simp only [bY,au]
   split
   ·rfl
   ·exact this
  ·rw [St.put_M];exact h1.2.1
  ·rw [St.put_nx];exact h1.2.2
variable {sl sl' st st':List (Nat×HV)} {nx:Nat} {d:Option Nat}
theorem dm (hC:uq C) (hp:rq k=true) {op:HOp HX} {op':HOp HV} {v:HV} {us:List dJ} {side:Prop} (hnc:op.isCall=false) (ho:op.map (ev sl)=op') (h0:ae (fun j=>au j st) (nx+stride*i) op'=(v,us,side)) (hs:side)
  (hu:OA d v (BR sl st us)=(sl',st')) (h:hx P (.o C all r (i+1)::k) (finish rs K) ⟨sl',st',nx⟩):hx P (.o C all (⟨d,op,none⟩::r) i::k) (finish rs K) ⟨sl,st,nx⟩:=by
 refine QR hnc ?_
 subst ho
 have e:(fun j=>au j st)=St.M ⟨sl,st,nx⟩:=rfl
 rw [e] at h0
 simp only
 rw [h0]
 exact ⟨hs,wP hC hp (sW hu) h⟩
class Qg (C:CallSpec):Prop where
 mono:uq C
instance:Qg (HS P):=⟨HT.cmono P⟩
instance {D:FuncId->List HV->HV->Prop}:Qg (CS P D):=⟨CS.cmono P D⟩
class Plain (k:List HI):Prop where
 plain:rq k=true
instance:Plain []:=⟨rfl⟩
instance {x:HCode} {k:List HI} [h:Plain k]:Plain (.c x::k):=⟨h.plain⟩
instance {id:Nat} {k:List HI} [h:Plain k]:Plain (.b id::k):=⟨h.plain⟩
instance {I:St->Prop} {μ:St->Nat} {m:Nat} {k:List HI} [h:Plain k]:Plain (.l I μ m::k):=⟨h.plain⟩
class Ok (C:CallSpec) (k:List HI):Prop where
 mono:uq C
 plain:rq k=true
instance [h:Qg C] [h2:Plain k]:Ok C k:=⟨h.mono,h2.plain⟩
theorem eI {v:HV} {k:IntKind} {n:Int} (h:v=.int k n):v=.int k n:=h
theorem eB {v:HV} {b:Bool} (h:v=.bool b):v=.bool b:=h
theorem eR {v:HV} {id:Nat} {p:List Nat} {sz off n:Nat} (h:v=.ref id p sz off n):v=.ref id p sz off n:=h
theorem eS {v:HV} {n:Nat} {cs:List HV} (h:v=.sl n cs):v=.sl n cs:=h
theorem eP {v:HV} {id:Nat} {p:List Nat} {off:Nat} (h:v=.pref id p off):v=.pref id p off:=h
theorem eQ {v:HV} {cs:List HV} {off:Nat} (h:v=.ptr cs off):v=.ptr cs off:=h
theorem eT {v:HV} {cs:List HV} (h:v=.tup cs):v=.tup cs:=h
theorem eA {v:HV} {cs:List HV} (h:v=.agg cs):v=.agg cs:=h
theorem eN {v:HV} (h:v=.nils):v=.nils:=h
theorem eF {v:HV} {f:FuncId} {cs:List HV} (h:v=.fn f cs):v=.fn f cs:=h
theorem eO {v:HV} {sz n:Nat} {cs:List HV} (h:v=.osl sz n cs):v=.osl sz n cs:=h
theorem eW {v:HV} {cs:List HV} (h:v=.optr cs):v=.optr cs:=h
theorem eL {v:HV} (h:v=.nilp):v=.nilp:=h
theorem eX {v:HV} {s:ByteArray} (h:v=.str s):v=.str s:=h
theorem eD {v:HV} (h:v=.dead):v=.dead:=h
theorem U1 {a b:Int} (h:a<b):decide (a<b)=true:=by simpa using h
theorem UW {a b:Int} (h:¬ a<b):decide (a<b)=false:=by simpa using h
theorem UT {a b:Int} (h:a<=b):decide (a<=b)=true:=by simpa using h
theorem UM {a b:Int} (h:¬ a<=b):decide (a<=b)=false:=by simpa using h
theorem UX {a b:Int} (h:a=b):(a==b)=true:=by simpa using h
theorem eqF {a b:Int} (h:¬ a=b):(a==b)=false:=by simpa using h
theorem UV {a b:Int} (h:¬ a=b):(a != b)=true:=by simpa using h
theorem UY {a b:Int} (h:a=b):(a != b)=false:=by simpa using h
theorem UN {a b:Nat} {v w:HV} {l m:List (Nat×Nat×HV)} (h:v=w) (h2:l=m):(a,b,v)::l=(a,b,w)::m:=by rw [h,h2]
theorem UI {v w:HV} {l m:List HV} (h:v=w) (h2:l=m):v::l=w::m:=by rw [h,h2]
variable {x y z:HX} {t:Nat} {u v w:HV} {kk:IntKind} {a b c:Int} {p q e:Bool} {cs cs' ws:List HV} {n m o off id sz:Nat} {path:List Nat}
abbrev G (P:Program) (C:CallSpec) (all r:List HOper) (i:Nat) (k:List HI) (rs:List Nat) (K:HV->Prop) (sl st:List (Nat×HV)) (nx:Nat):Prop:=hx P (.o C all r i::k) (finish rs K) ⟨sl,st,nx⟩
def UA (nz:Nat) (v:HV):Bool :=
 match nz,v with
 | 0,_=>true
 | _+1,.nils=>false
 | _+1,_=>true
def QU:HV->Bool
 | .nils=>true
 | .sl ..=>true
 | .ref ..=>true
 | _=>false
theorem l7 [ok:Ok C k] {nz:Nat} (hv:ev sl x=v) (hn:UA nz v=true) (h:G P C all r (i+1) k rs K ((t,v)::sl) st nx):G P C all (⟨some t,.mv nz x,none⟩::r) i k rs K sl st nx :=
 dm ok.mono ok.plain (v:=v) (us:=[]) (side:=True) rfl (by rw [HOp.map,hv]) (by
  cases nz with
  | zero=>cases v<;>rfl
  | succ nz=>cases v<;>first|rfl|cases hn) trivial rfl h
theorem oz [ok:Ok C k] {nz fr:Nat} (hn:(nz != 0)=true) (hv:ev sl x=.nils) (hf:nx+stride*i=fr) (h:G P C all r (i+1) k rs K ((t,.ref fr [] nz 0 0)::sl) ((fr,.osl nz 0 [])::st) nx):G P C all (⟨some t,.mv nz x,none⟩::r) i k rs K sl st nx:=by
 subst hf
 cases nz with
 | zero=>cases hn
 | succ nz=>exact dm ok.mono ok.plain (us:=[.put (nx+stride*i) (.osl (nz+1) 0 [])]) (side:=True) rfl (by rw [HOp.map,hv]) rfl trivial rfl h
theorem iY [ok:Ok C k] (hc:ev sl x=.bool true) (hv:ev sl y=v) (h:G P C all r (i+1) k rs K ((t,v)::sl) st nx):G P C all (⟨some t,.pick x y z,none⟩::r) i k rs K sl st nx :=
 dm ok.mono ok.plain (v:=v) (us:=[]) (side:=True) rfl (by rw [HOp.map,hc,hv]) (by cases v<;>(try rfl)<;>(cases ev sl z<;>rfl)) trivial rfl h
theorem gy [ok:Ok C k] (hc:ev sl x=.bool false) (hv:ev sl z=v) (h:G P C all r (i+1) k rs K ((t,v)::sl) st nx):G P C all (⟨some t,.pick x y z,none⟩::r) i k rs K sl st nx :=
 dm ok.mono ok.plain (v:=v) (us:=[]) (side:=True) rfl (by rw [HOp.map,hc,hv]) (by cases ev sl y<;>(try rfl)<;>(cases v<;>rfl)) trivial rfl h
theorem kw [ok:Ok C k] (hx:ev sl x=.int kk a) (hy:ev sl y=.int kk b) (hc:kk.wrap (a+b)=c) (h:G P C all r (i+1) k rs K ((t,.int kk c)::sl) st nx):G P C all (⟨some t,.bin .add x y,none⟩::r) i k rs K sl st nx :=
 dm ok.mono ok.plain (v:=.int kk c) (us:=[]) (side:=kk=kk) rfl (by rw [HOp.map,hx,hy]) (by subst hc;rfl) rfl rfl h
theorem x8 [ok:Ok C k] (hx:ev sl x=.int kk a) (hy:ev sl y=.int kk b) (hc:kk.wrap (a - b)=c) (h:G P C all r (i+1) k rs K ((t,.int kk c)::sl) st nx):G P C all (⟨some t,.bin .sub x y,none⟩::r) i k rs K sl st nx :=
 dm ok.mono ok.plain (v:=.int kk c) (us:=[]) (side:=kk=kk) rfl (by rw [HOp.map,hx,hy]) (by subst hc;rfl) rfl rfl h
theorem xw [ok:Ok C k] (hx:ev sl x=.int kk a) (hy:ev sl y=.int kk b) (hc:kk.wrap (a*b)=c) (h:G P C all r (i+1) k rs K ((t,.int kk c)::sl) st nx):G P C all (⟨some t,.bin .mul x y,none⟩::r) i k rs K sl st nx :=
 dm ok.mono ok.plain (v:=.int kk c) (us:=[]) (side:=kk=kk) rfl (by rw [HOp.map,hx,hy]) (by subst hc;rfl) rfl rfl h
theorem CE [ok:Ok C k] (hx:ev sl x=.int kk a) (hy:ev sl y=.int kk b) (hc:kk.wrap (BitVec.ofInt kk.bits a &&& BitVec.ofInt kk.bits b).toNat=c) (h:G P C all r (i+1) k rs K ((t,.int kk c)::sl) st nx):G P C all (⟨some t,.bin .and x y,none⟩::r) i k rs K sl st nx :=
 dm ok.mono ok.plain (v:=.int kk c) (us:=[]) (side:=kk=kk) rfl (by rw [HOp.map,hx,hy]) (by subst hc;rfl) rfl rfl h
theorem Ky [ok:Ok C k] (hx:ev sl x=.int kk a) (hy:ev sl y=.int kk b) (hc:kk.wrap (BitVec.ofInt kk.bits a ||| BitVec.ofInt kk.bits b).toNat=c) (h:G P C all r (i+1) k rs K ((t,.int kk c)::sl) st nx):G P C all (⟨some t,.bin .or x y,none⟩::r) i k rs K sl st nx :=
 dm ok.mono ok.plain (v:=.int kk c) (us:=[]) (side:=kk=kk) rfl (by rw [HOp.map,hx,hy]) (by subst hc;rfl) rfl rfl h
theorem AY [ok:Ok C k] (hx:ev sl x=.int kk a) (hy:ev sl y=.int kk b) (hc:kk.wrap (BitVec.ofInt kk.bits a ^^^ BitVec.ofInt kk.bits b).toNat=c) (h:G P C all r (i+1) k rs K ((t,.int kk c)::sl) st nx):G P C all (⟨some t,.bin .xor x y,none⟩::r) i k rs K sl st nx :=
 dm ok.mono ok.plain (v:=.int kk c) (us:=[]) (side:=kk=kk) rfl (by rw [HOp.map,hx,hy]) (by subst hc;rfl) rfl rfl h
theorem yf [ok:Ok C k] (hx:ev sl x=.int kk a) (hy:ev sl y=.int kk b) (hb:b≠0) (hc:kk.wrap (a.tdiv b)=c) (h:G P C all r (i+1) k rs K ((t,.int kk c)::sl) st nx):G P C all (⟨some t,.bin .quo x y,none⟩::r) i k rs K sl st nx :=
 dm ok.mono ok.plain (v:=.int kk c) (us:=[]) (side:=kk=kk/\b≠0) rfl (by rw [HOp.map,hx,hy]) (by subst hc;rfl) ⟨rfl,hb⟩ rfl h
theorem xA [ok:Ok C k] (hx:ev sl x=.int kk a) (hy:ev sl y=.int kk b) (hb:b≠0) (hc:a.tmod b=c) (h:G P C all r (i+1) k rs K ((t,.int kk c)::sl) st nx):G P C all (⟨some t,.bin .rem x y,none⟩::r) i k rs K sl st nx :=
 dm ok.mono ok.plain (v:=.int kk c) (us:=[]) (side:=kk=kk/\b≠0) rfl (by rw [HOp.map,hx,hy]) (by subst hc;rfl) ⟨rfl,hb⟩ rfl h
theorem xC [ok:Ok C k] {k2:IntKind} (hx:ev sl x=.int kk a) (hy:ev sl y=.int k2 b) (hb:0<=b) (hc:kk.wrap (a*2 ^ (min b.toNat kk.bits))=c) (h:G P C all r (i+1) k rs K ((t,.int kk c)::sl) st nx):G P C all (⟨some t,.bin .shl x y,none⟩::r) i k rs K sl st nx :=
 dm ok.mono ok.plain (v:=.int kk c) (us:=[]) (side:=0<=b) rfl (by rw [HOp.map,hx,hy]) (by subst hc;rfl) hb rfl h
theorem BC [ok:Ok C k] {k2:IntKind} (hx:ev sl x=.int kk a) (hy:ev sl y=.int k2 b) (hb:0<=b) (hc:a.fdiv (2 ^ (min b.toNat kk.bits))=c) (h:G P C all r (i+1) k rs K ((t,.int kk c)::sl) st nx):G P C all (⟨some t,.bin .shr x y,none⟩::r) i k rs K sl st nx :=
 dm ok.mono ok.plain (v:=.int kk c) (us:=[]) (side:=0<=b) rfl (by rw [HOp.map,hx,hy]) (by subst hc;rfl) hb rfl h
theorem ni [ok:Ok C k] (hx:ev sl x=.int kk a) (hy:ev sl y=.int kk b) (hc:(a==b)=p) (h:G P C all r (i+1) k rs K ((t,.bool p)::sl) st nx):G P C all (⟨some t,.bin .eql x y,none⟩::r) i k rs K sl st nx :=
 dm ok.mono ok.plain (v:=.bool p) (us:=[]) (side:=kk=kk) rfl (by rw [HOp.map,hx,hy]) (by subst hc;rfl) rfl rfl h
theorem qX [ok:Ok C k] (hx:ev sl x=.int kk a) (hy:ev sl y=.int kk b) (hc:(a != b)=p) (h:G P C all r (i+1) k rs K ((t,.bool p)::sl) st nx):G P C all (⟨some t,.bin .neq x y,none⟩::r) i k rs K sl st nx :=
 dm ok.mono ok.plain (v:=.bool p) (us:=[]) (side:=kk=kk) rfl (by rw [HOp.map,hx,hy]) (by subst hc;rfl) rfl rfl h
theorem jF [ok:Ok C k] (hx:ev sl x=.int kk a) (hy:ev sl y=.int kk b) (hc:decide (a<b)=p) (h:G P C all r (i+1) k rs K ((t,.bool p)::sl) st nx):G P C all (⟨some t,.bin .lss x y,none⟩::r) i k rs K sl st nx :=
 dm ok.mono ok.plain (v:=.bool p) (us:=[]) (side:=kk=kk) rfl (by rw [HOp.map,hx,hy]) (by subst hc;rfl) rfl rfl h
theorem xK [ok:Ok C k] (hx:ev sl x=.int kk a) (hy:ev sl y=.int kk b) (hc:decide (a<=b)=p) (h:G P C all r (i+1) k rs K ((t,.bool p)::sl) st nx):G P C all (⟨some t,.bin .leq x y,none⟩::r) i k rs K sl st nx :=
 dm ok.mono ok.plain (v:=.bool p) (us:=[]) (side:=kk=kk) rfl (by rw [HOp.map,hx,hy]) (by subst hc;rfl) rfl rfl h
theorem ul [ok:Ok C k] (hx:ev sl x=.int kk a) (hy:ev sl y=.int kk b) (hc:decide (b<a)=p) (h:G P C all r (i+1) k rs K ((t,.bool p)::sl) st nx):G P C all (⟨some t,.bin .gtr x y,none⟩::r) i k rs K sl st nx :=
 dm ok.mono ok.plain (v:=.bool p) (us:=[]) (side:=kk=kk) rfl (by rw [HOp.map,hx,hy]) (by subst hc;rfl) rfl rfl h
theorem um [ok:Ok C k] (hx:ev sl x=.int kk a) (hy:ev sl y=.int kk b) (hc:decide (b<=a)=p) (h:G P C all r (i+1) k rs K ((t,.bool p)::sl) st nx):G P C all (⟨some t,.bin .geq x y,none⟩::r) i k rs K sl st nx :=
 dm ok.mono ok.plain (v:=.bool p) (us:=[]) (side:=kk=kk) rfl (by rw [HOp.map,hx,hy]) (by subst hc;rfl) rfl rfl h
theorem xn [ok:Ok C k] {ne:Bool} (hx:ev sl x=.bool p) (hy:ev sl y=.bool q) (hc:(if ne=true then !(p==q) else p==q)=e) (h:G P C all r (i+1) k rs K ((t,.bool e)::sl) st nx):G P C all (⟨some t,.beq ne x y,none⟩::r) i k rs K sl st nx :=
 dm ok.mono ok.plain (v:=.bool e) (us:=[]) (side:=True) rfl (by rw [HOp.map,hx,hy]) (by subst hc;rfl) trivial rfl h
theorem BD [ok:Ok C k] {ne:Bool} (hx:ev sl x=.agg cs) (hy:ev sl y=.agg cs') (hs:cs.length=n/\cs'.length=n/\gW cs=true/\gW cs'=true) (hc:(if ne=true then !(mf cs cs') else mf cs cs')=e) (h:G P C all r (i+1) k rs K ((t,.bool e)::sl) st nx):G P C all (⟨some t,.aeq ne n x y,none⟩::r) i k rs K sl st nx :=
 dm ok.mono ok.plain (v:=.bool e) (us:=[]) (side:=cs.length=n/\cs'.length=n/\gW cs=true/\gW cs'=true) rfl (by rw [HOp.map,hx,hy]) (by subst hc;rfl) hs rfl h
theorem oK [ok:Ok C k] (hx:ev sl x=.bool p) (hc:(!p)=e) (h:G P C all r (i+1) k rs K ((t,.bool e)::sl) st nx):G P C all (⟨some t,.un .not x,none⟩::r) i k rs K sl st nx :=
 dm ok.mono ok.plain (v:=.bool e) (us:=[]) (side:=True) rfl (by rw [HOp.map,hx]) (by subst hc;rfl) trivial rfl h
theorem nI [ok:Ok C k] (hx:ev sl x=.bool true) (h:G P C all r (i+1) k rs K ((t,.bool false)::sl) st nx):G P C all (⟨some t,.un .not x,none⟩::r) i k rs K sl st nx:=oK hx rfl h
theorem nM [ok:Ok C k] (hx:ev sl x=.bool false) (h:G P C all r (i+1) k rs K ((t,.bool true)::sl) st nx):G P C all (⟨some t,.un .not x,none⟩::r) i k rs K sl st nx:=oK hx rfl h
theorem Dj [ok:Ok C k] (hx:ev sl x=.int kk a) (hc:kk.wrap (0 - a)=c) (h:G P C all r (i+1) k rs K ((t,.int kk c)::sl) st nx):G P C all (⟨some t,.un .neg x,none⟩::r) i k rs K sl st nx :=
 dm ok.mono ok.plain (v:=.int kk c) (us:=[]) (side:=True) rfl (by rw [HOp.map,hx]) (by subst hc;rfl) trivial rfl h
theorem rC [ok:Ok C k] {k2:IntKind} (hx:ev sl x=.int k2 a) (hc:kk.wrap a=c) (h:G P C all r (i+1) k rs K ((t,.int kk c)::sl) st nx):G P C all (⟨some t,.conv kk x,none⟩::r) i k rs K sl st nx :=
 dm ok.mono ok.plain (v:=.int kk c) (us:=[]) (side:=True) rfl (by rw [HOp.map,hx]) (by subst hc;rfl) trivial rfl h
theorem DI [ok:Ok C k] {mx:Bool} (hx:ev sl x=.int kk a) (hy:ev sl y=.int kk b) (hc:(if mx=true then (if a<b then b else a) else (if b<a then b else a))=c) (h:G P C all r (i+1) k rs K ((t,.int kk c)::sl) st nx):G P C all (⟨some t,.mm mx x y,none⟩::r) i k rs K sl st nx :=
 dm ok.mono ok.plain (v:=.int kk c) (us:=[]) (side:=kk=kk) rfl (by rw [HOp.map,hx,hy]) (by subst hc;rfl) rfl rfl h
theorem rM [ok:Ok C k] (hx:ev sl x=.nils) (h:G P C all r (i+1) k rs K ((t,.int .i64 0)::sl) st nx):G P C all (⟨some t,.len x,none⟩::r) i k rs K sl st nx :=
 dm ok.mono ok.plain (v:=.int .i64 0) (us:=[]) (side:=True) rfl (by rw [HOp.map,hx]) rfl trivial rfl h
theorem lQ [ok:Ok C k] (hx:ev sl x=.sl n cs) (h:G P C all r (i+1) k rs K ((t,.int .i64 n)::sl) st nx):G P C all (⟨some t,.len x,none⟩::r) i k rs K sl st nx :=
 dm ok.mono ok.plain (v:=.int .i64 n) (us:=[]) (side:=True) rfl (by rw [HOp.map,hx]) rfl trivial rfl h
theorem kW [ok:Ok C k] (hx:ev sl x=.ref id path sz off n) (h:G P C all r (i+1) k rs K ((t,.int .i64 n)::sl) st nx):G P C all (⟨some t,.len x,none⟩::r) i k rs K sl st nx :=
 dm ok.mono ok.plain (v:=.int .i64 n) (us:=[]) (side:=True) rfl (by rw [HOp.map,hx]) rfl trivial rfl h
theorem Ri [ok:Ok C k] (hx:ev sl x=.sl n cs) (hy:ev sl y=.int kk a) (h0:0<=a/\a<n) (ho:a.toNat*sz=o) (h:G P C all r (i+1) k rs K ((t,.ptr cs o)::sl) st nx):G P C all (⟨some t,.iaddr sz x y,none⟩::r) i k rs K sl st nx :=
 dm ok.mono ok.plain (v:=.ptr cs o) (us:=[]) (side:=0<=a/\a<n) rfl (by rw [HOp.map,hx,hy]) (by subst ho;rfl) h0 rfl h
theorem dK [ok:Ok C k] (h:G P C all r (i+1) k rs K ((t,.ptr cs o)::sl) st nx) (hx:ev sl x=.sl n cs:=by rfl) (hy:ev sl y=.int kk a:=by rfl) (h0:0<=a/\a<n:=by omega) (ho:a.toNat*sz=o:=by (try simp only [go_sem,reduceIte,Nat.reduceEqDiff,Nat.reduceAdd,Nat.reduceMul]);try rfl):G P C all (⟨some t,.iaddr sz x y,none⟩::r) i k rs K sl st nx:=Ri hx hy h0 ho h
theorem Sl [ok:Ok C k] (hx:ev sl x=.ref id path sz off n) (hy:ev sl y=.int kk a) (h0:0<=a/\a<n) (ho:off+a.toNat*sz=o) (h:G P C all r (i+1) k rs K ((t,.pref id path o)::sl) st nx):G P C all (⟨some t,.iaddr sz x y,none⟩::r) i k rs K sl st nx :=
 dm ok.mono ok.plain (v:=.pref id path o) (us:=[]) (side:=0<=a/\a<n/\sz=sz) rfl (by rw [HOp.map,hx,hy]) (by subst ho;rfl) ⟨h0.1,h0.2,rfl⟩ rfl h
theorem dE [ok:Ok C k] (h:G P C all r (i+1) k rs K ((t,.pref id path o)::sl) st nx) (hx:ev sl x=.ref id path sz off n:=by rfl) (hy:ev sl y=.int kk a:=by rfl) (h0:0<=a/\a<n:=by omega) (ho:off+a.toNat*sz=o:=by (try simp only [go_sem,reduceIte,Nat.reduceEqDiff,Nat.reduceAdd,Nat.reduceMul]);try rfl):G P C all (⟨some t,.iaddr sz x y,none⟩::r) i k rs K sl st nx:=Sl hx hy h0 ho h
theorem xW [ok:Ok C k] {dd:Nat} (hx:ev sl x=.ptr cs off) (ho:off+dd=o) (h:G P C all r (i+1) k rs K ((t,.ptr cs o)::sl) st nx):G P C all (⟨some t,.faddr dd x,none⟩::r) i k rs K sl st nx :=
 dm ok.mono ok.plain (v:=.ptr cs o) (us:=[]) (side:=True) rfl (by rw [HOp.map,hx]) (by subst ho;rfl) trivial rfl h
theorem yg [ok:Ok C k] {dd:Nat} (hx:ev sl x=.pref id path off) (ho:off+dd=o) (h:G P C all r (i+1) k rs K ((t,.pref id path o)::sl) st nx):G P C all (⟨some t,.faddr dd x,none⟩::r) i k rs K sl st nx :=
 dm ok.mono ok.plain (v:=.pref id path o) (us:=[]) (side:=True) rfl (by rw [HOp.map,hx]) (by subst ho;rfl) trivial rfl h
theorem jH [ok:Ok C k] (hx:ev sl x=.ptr cs off) (hl:off<cs.length) (hv:cs.getD off .dead=v) (h:G P C all r (i+1) k rs K ((t,v)::sl) st nx):G P C all (⟨some t,.load false sz x,none⟩::r) i k rs K sl st nx :=
 dm ok.mono ok.plain (v:=v) (us:=[]) (side:=off<cs.length) rfl (by rw [HOp.map,hx]) (by subst hv;rfl) hl rfl h
theorem wK [ok:Ok C k] (hx:ev sl x=.ptr cs off) (hl:off+sz<=cs.length) (hv:win cs off sz=ws) (h:G P C all r (i+1) k rs K ((t,.agg ws)::sl) st nx):G P C all (⟨some t,.load true sz x,none⟩::r) i k rs K sl st nx :=
 dm ok.mono ok.plain (v:=.agg ws) (us:=[]) (side:=off+sz<=cs.length) rfl (by rw [HOp.map,hx]) (by subst hv;rfl) hl rfl h
theorem jA [ok:Ok C k] (hx:ev sl x=.pref id path off) (ht:au id st=u) (hk:aJ (ah u path)=cs) (hl:off<cs.length) (hv:cs.getD off .dead=w) (hw:look id path off w=v) (h:G P C all r (i+1) k rs K ((t,v)::sl) st nx):G P C all (⟨some t,.load false sz x,none⟩::r) i k rs K sl st nx :=
 dm ok.mono ok.plain (v:=v) (us:=[]) (side:=off<cs.length) rfl (by rw [HOp.map,hx]) (by
  subst hv hw hk ht
  rfl) hl rfl h
theorem wL [ok:Ok C k] (hx:ev sl x=.pref id path off) (ht:au id st=u) (hk:aJ (ah u path)=cs) (hl:off+sz<=cs.length) (h0:0<sz) (hv:win cs off sz=ws) (hf:aZ ws=true) (h:G P C all r (i+1) k rs K ((t,.agg ws)::sl) st nx):G P C all (⟨some t,.load true sz x,none⟩::r) i k rs K sl st nx :=
 dm ok.mono ok.plain (v:=.agg ws) (us:=[]) (side:=off+sz<=cs.length/\0<sz/\aZ ws=true) rfl (by rw [HOp.map,hx]) (by
  subst hv hk ht
  simp only [ae,if_true]) ⟨hl,h0,hf⟩ rfl h
theorem uJ (L:Lk):∀ {l:List HV},aZ l=true->dO L l=(l,[],(dO L l).2.2)/\(dO L l).2.2:=by
 intro l
 induction l generalizing L with
 | nil=>intro _;exact ⟨rfl,trivial⟩
 | cons v r ih =>
  intro h
  simp only [aZ,xX,aG] at h
  have h1:takeC L v=(v,[],True):=by cases v<;>first|rfl|(exact absurd h.1 (by simp [fH]))
  obtain ⟨h2,h3⟩:=ih (L:=L) h.2
  simp only [dO,h1,Lk.upd]
  rw [h2]
  exact ⟨rfl,trivial,h3⟩
theorem wQ [ok:Ok C k] (hx:ev sl x=.pref id path off) (hy:ev sl y=w) (hw:cellsOf w=ws) (hf:aZ ws=true) (hz:ws.length=sz) (h0:0<sz) (ht:au id st=u) (hk:aJ (ah u path)=cs) (hl:off+sz<=cs.length)
  (hs:setFrom cs off ws=cs') (hn:cu (bu cs' (ah u path)) u path=v) (h:G P C all r (i+1) k rs K sl ((id,v)::st) nx):G P C all (⟨none,.store true sz x y,none⟩::r) i k rs K sl st nx:=by
 obtain ⟨e1,e2⟩:=uJ (fun j=>au j st) hf
 refine dm ok.mono ok.plain (v:=.dead) (us:=[.put id v]) (side:=(dO (fun j=>au j st) ws).2.2/\ws.length=sz/\0<sz/\off+sz<=cs.length/\(true=true->aZ ws=true)) rfl (by rw [HOp.map,hx,hy]) ?_ ⟨e2,hz,h0,hl,fun _=>hf⟩ rfl h
 subst hn hs hk ht hw
 simp only [ae]
 rw [e1]
 simp only [if_true,List.nil_append,Lk.upd]
theorem BX [ok:Ok C k] {n q:Nat} {ws':List HV} {sd:Prop} (hx:ev sl x=.ref id path 1 off n) (hy:ev sl y=w) (hn:aU (fun j=>au j st) true 1 w=(m,ws,[],sd)) (hs:sd) (hq:min m n=q) (hw:ws.take q=ws') (hf:aZ ws'=true) (h0:0<q) (ht:au id st=u) (hk:aJ (ah u path)=cs) (hl:off+q<=cs.length)
  (hse:setFrom cs off ws'=cs') (hnn:cu (bu cs' (ah u path)) u path=v) (h:G P C all r (i+1) k rs K ((t,.int .i64 (q:Nat))::sl) ((id,v)::st) nx):G P C all (⟨some t,.cpy x y,none⟩::r) i k rs K sl st nx:=by
 subst hnn hse hk ht hw hq
 refine dm ok.mono ok.plain (v:=.int .i64 (min m n:Nat)) (us:=[.put id (cu (bu (setFrom (aJ (ah (au id st) path)) off (ws.take (min m n))) (ah (au id st) path)) (au id st) path)]) (side:=sd/\1=1/\0<min m n/\off+min m n<=(aJ (ah (au id st) path)).length/\aZ (ws.take (min m n))=true) rfl (by rw [HOp.map,hx,hy]) ?_ ⟨hs,rfl,h0,hl,hf⟩ rfl h
 simp only [ae,hn]
theorem Bj [ok:Ok C k] {fr:Nat} (hf:nx+stride*i=fr) (hx:ev sl x=v) (hv:QU v=true) (h:G P C all r (i+1) k rs K ((t,.ref fr [] sz 0 0)::sl) ((fr,.osl sz 0 [])::st) nx):G P C all (⟨some t,.slz sz x,none⟩::r) i k rs K sl st nx:=by
 subst hf
 cases v<;>simp only [QU,Bool.false_eq_true] at hv<;>exact dm ok.mono ok.plain (v:=.ref _ [] sz 0 0) (us:=[.put _ (.osl sz 0 [])]) (side:=True) rfl (by rw [HOp.map,hx]) rfl trivial rfl h
theorem wR [ok:Ok C k] {ne:Bool} (hx:ev sl x=.nils) (h:G P C all r (i+1) k rs K ((t,.bool (!ne))::sl) st nx):G P C all (⟨some t,.isn ne x,none⟩::r) i k rs K sl st nx :=
 dm ok.mono ok.plain (v:=.bool (!ne)) (us:=[]) (side:=True) rfl (by rw [HOp.map,hx]) rfl trivial rfl h
theorem wV [ok:Ok C k] {ne:Bool} (hx:ev sl x=.sl n cs) (hn:0<n) (h:G P C all r (i+1) k rs K ((t,.bool ne)::sl) st nx):G P C all (⟨some t,.isn ne x,none⟩::r) i k rs K sl st nx :=
 dm ok.mono ok.plain (v:=.bool ne) (us:=[]) (side:=0<n) rfl (by rw [HOp.map,hx]) rfl hn rfl h
theorem wu [ok:Ok C k] {ne:Bool} (hx:ev sl x=.ref id path sz off n) (hn:0<n) (h:G P C all r (i+1) k rs K ((t,.bool ne)::sl) st nx):G P C all (⟨some t,.isn ne x,none⟩::r) i k rs K sl st nx :=
 dm ok.mono ok.plain (v:=.bool ne) (us:=[]) (side:=0<n) rfl (by rw [HOp.map,hx]) rfl hn rfl h
theorem Bv [ok:Ok C k] (hx:ev sl x=.agg cs) (hl:off<cs.length) (hv:cs.getD off .dead=v) (h:G P C all r (i+1) k rs K ((t,v)::sl) st nx):G P C all (⟨some t,.fld false sz off x,none⟩::r) i k rs K sl st nx :=
 dm ok.mono ok.plain (v:=v) (us:=[]) (side:=off<cs.length) rfl (by rw [HOp.map,hx]) (by subst hv;rfl) hl rfl h
theorem wI [ok:Ok C k] (hx:ev sl x=.agg cs) (hl:off+sz<=cs.length) (hv:win cs off sz=ws) (h:G P C all r (i+1) k rs K ((t,.agg ws)::sl) st nx):G P C all (⟨some t,.fld true sz off x,none⟩::r) i k rs K sl st nx :=
 dm ok.mono ok.plain (v:=.agg ws) (us:=[]) (side:=off+sz<=cs.length) rfl (by rw [HOp.map,hx]) (by subst hv;rfl) hl rfl h
theorem rU [ok:Ok C k] (hx:ev sl x=.tup cs) (hl:n<cs.length) (hv:cs.getD n .dead=v) (h:G P C all r (i+1) k rs K ((t,v)::sl) st nx):G P C all (⟨some t,.ext x n,none⟩::r) i k rs K sl st nx :=
 dm ok.mono ok.plain (v:=v) (us:=[]) (side:=n<cs.length) rfl (by rw [HOp.map,hx]) (by subst hv;rfl) hl rfl h
theorem qK [ok:Ok C k] {lo hi:Option HX} (hx:ev sl x=.sl n cs) (hlo:(lo.map (ev sl)).getD (.int .i64 0)=.int .i64 a) (hhi:(hi.map (ev sl)).getD (.int .i64 n)=.int .i64 b) (hside:0<=a/\a<=b/\b<=n) (hm:(b - a).toNat=m) (ho:a.toNat*sz=o) (hw:win cs o (m*sz)=ws)
  (h:G P C all r (i+1) k rs K ((t,.sl m ws)::sl) st nx):G P C all (⟨some t,.slc sz x lo hi,none⟩::r) i k rs K sl st nx :=
 dm ok.mono ok.plain (v:=.sl m ws) (us:=[]) (side:=0<=a/\a<=b/\b<=n) rfl (by rw [HOp.map,hx]) (by subst hw hm ho;simp only [ae,hlo,hhi]) hside rfl h
theorem oG [ok:Ok C k] {lo hi:Option HX} (hx:ev sl x=.ref id path sz off n) (hlo:(lo.map (ev sl)).getD (.int .i64 0)=.int .i64 a) (hhi:(hi.map (ev sl)).getD (.int .i64 n)=.int .i64 b) (hside:0<=a/\a<=b/\b<=n) (hm:(b - a).toNat=m) (ho:off+a.toNat*sz=o)
  (h:G P C all r (i+1) k rs K ((t,.ref id path sz o m)::sl) st nx):G P C all (⟨some t,.slc sz x lo hi,none⟩::r) i k rs K sl st nx :=
 dm ok.mono ok.plain (v:=.ref id path sz o m) (us:=[]) (side:=0<=a/\a<=b/\b<=n/\sz=sz) rfl (by rw [HOp.map,hx]) (by subst hm ho;simp only [ae,hlo,hhi]) ⟨hside.1,hside.2.1,hside.2.2,rfl⟩ rfl h
theorem BN [ok:Ok C k] {xs:List HX} {vs:List HV} {fr:Nat} (hf:nx+stride*i=fr) (hvs:xs.map (ev sl)=vs) (hcs:vs.flatMap cellsOf=cs) (hfl:aZ cs=true) (hn:n=vs.length) (hz:(vs.all fun v=>(cellsOf v).length==sz)=true)
  (h:G P C all r (i+1) k rs K ((t,.ref fr [] sz 0 n)::sl) ((fr,.osl sz n cs)::st) nx):G P C all (⟨some t,.bsl sz n xs,none⟩::r) i k rs K sl st nx:=by
 obtain ⟨e1,e2⟩:=uJ (fun j=>au j st) hfl
 subst hf
 refine dm ok.mono ok.plain (us:=[.put (nx+stride*i) (.osl sz n cs)]) (side:=(dO (fun j=>au j st) cs).2.2/\n=vs.length/\(vs.all fun v=>(cellsOf v).length==sz)=true) rfl (by rw [HOp.map,hvs]) ?_ ⟨e2,hn,hz⟩ rfl h
 subst hcs
 simp only [ae]
 rw [e1]
 rfl
theorem yY (a b:List dJ):∀ (sl st:List (Nat×HV)),BR sl st (a++b)=BR (BR sl st a).1 (BR sl st a).2 b:=by
 induction a with
 | nil=>intro sl st;rfl
 | cons u a ih=>intro sl st;cases u<;>exact ih _ _
theorem AQ [ok:Ok C k] {fl:Bool} {ws0:List HV} {us:List dJ} {sd:Prop} (hx:ev sl x=.pref id path off) (hy:ev sl y=w) (hw:cellsOf w=ws0) (ht:dO (fun j=>au j st) ws0=(ws,us,sd)) (hs:sd) (hz:ws.length=sz) (h0:0<sz) (hf:fl=false) (hu0:Lk.upd (fun j=>au j st) us id=u) (hk:aJ (ah u path)=cs) (hl:off+sz<=cs.length)
  (hse:setFrom cs off ws=cs') (hn:cu (bu cs' (ah u path)) u path=v) (hu:BR sl st (us++[.kill id path.length]++[.put id v])=(sl',st')) (h:G P C all r (i+1) k rs K sl' st' nx):G P C all (⟨none,.store fl sz x y,none⟩::r) i k rs K sl st nx:=by
 subst hf hn hse hk hu0 hw
 refine dm ok.mono ok.plain (v:=.dead) (us:=us++[.kill id path.length]++[.put id (cu (bu (setFrom (aJ (ah (Lk.upd (fun j=>au j st) us id) path)) off ws) (ah (Lk.upd (fun j=>au j st) us id) path)) (Lk.upd (fun j=>au j st) us id) path)]) (side:=sd/\ws.length=sz/\0<sz/\off+sz<=(aJ (ah (Lk.upd (fun j=>au j st) us id) path)).length/\(false=true->aZ ws=true)) rfl (by rw [HOp.map,hx,hy]) ?_ ⟨hs,hz,h0,hl,fun h=>by cases h⟩ (by rw [hu];rfl) h
 simp only [ae,ht,if_false,Bool.false_eq_true]
theorem wE [ok:Ok C k] {xs:List HX} {vs cs0:List HV} {us:List dJ} {sd:Prop} {fr:Nat} (hf:nx+stride*i=fr) (hvs:xs.map (ev sl)=vs) (hcs:vs.flatMap cellsOf=cs0) (ht:dO (fun j=>au j st) cs0=(cs,us,sd)) (hs:sd) (hn:n=vs.length) (hz:(vs.all fun v=>(cellsOf v).length==sz)=true) (hu:BR sl st us=(sl',st'))
  (h:G P C all r (i+1) k rs K ((t,.ref fr [] sz 0 n)::sl') ((fr,.osl sz n cs)::st') nx):G P C all (⟨some t,.bsl sz n xs,none⟩::r) i k rs K sl st nx:=by
 subst hf
 refine dm ok.mono ok.plain (v:=.ref (nx+stride*i) [] sz 0 n) (us:=us++[.put (nx+stride*i) (.osl sz n cs)]) (side:=sd/\n=vs.length/\(vs.all fun v=>(cellsOf v).length==sz)=true) rfl (by rw [HOp.map,hvs]) ?_ ⟨hs,hn,hz⟩ (by rw [yY,hu];rfl) h
 subst hcs
 simp only [ae]
 rw [ht]
theorem tC [ok:Ok C k] {fr bytes sz2 n2 q:Nat} {fl:Bool} {sd:Prop} {us:List dJ} {u':HV} (hf:nx+stride*i=fr) (hx:ev sl x=.ref id path sz off n) (hy:ev sl y=w) (hn:aU (fun j=>au j st) fl sz w=(m,ws,us,sd)) (hs:sd) (ht:Lk.upd (fun j=>au j st) us id=u) (hg:ah u path=.osl sz2 n2 cs) (hq:n+m=q)
  (hb:q*bytes<=140737488355328) (hm:q<=maxLen) (hl:off+n*sz<=cs.length) (hc:win cs off (n*sz)++ws=cs') (hd:cu .dead u path=u') (hu:BR sl st us=(sl',st'))
  (h:G P C all r (i+1) k rs K ((t,.ref fr [] sz 0 q)::sl') ((fr,.osl sz q cs')::(id,u')::st') nx):G P C all (⟨some t,.app fl sz bytes x y,none⟩::r) i k rs K sl st nx:=by
 subst hf hd hc ht hq
 refine dm ok.mono ok.plain (v:=.ref (nx+stride*i) [] sz 0 (n+m)) (us:=us++[.put id (cu .dead (Lk.upd (fun j=>au j st) us id) path),.put (nx+stride*i) (.osl sz (n+m) (win cs off (n*sz)++ws))]) (side:=sd/\(n+m)*bytes<=140737488355328/\n+m<=maxLen/\sz=sz/\off+n*sz<=cs.length) rfl (by rw [HOp.map,hx,hy]) ?_ ⟨hs,hb,hm,rfl,hl⟩ (by rw [yY,hu];rfl) h
 simp only [ae,hn,hg]
theorem wZ [ok:Ok C k] {fr:Nat} (hf:nx+stride*i=fr) (hv:ev sl x=v) (hcs:cellsOf v=cs) (hfl:aZ cs=true) (hz:cs.length=sz) (h:G P C all r (i+1) k rs K ((t,.pref fr [] 0)::sl) ((fr,.optr cs)::st) nx):G P C all (⟨some t,.newv sz x,none⟩::r) i k rs K sl st nx:=by
 obtain ⟨e1,e2⟩:=uJ (fun j=>au j st) hfl
 subst hf
 refine dm ok.mono ok.plain (us:=[.put (nx+stride*i) (.optr cs)]) (side:=(dO (fun j=>au j st) cs).2.2/\cs.length=sz) rfl (by rw [HOp.map,hv]) ?_ ⟨e2,hz⟩ rfl h
 subst hcs
 simp only [ae]
 rw [e1]
 rfl
theorem qJ [ok:Ok C k] {fr:Nat} (hf:nx+stride*i=fr) (h:G P C all r (i+1) k rs K ((t,.pref fr [] 0)::sl) ((fr,.optr cs)::st) nx):G P C all (⟨some t,.newz cs,none⟩::r) i k rs K sl st nx:=by
 subst hf
 exact dm ok.mono ok.plain (us:=[.put (nx+stride*i) (.optr cs)]) (side:=True) rfl rfl rfl trivial rfl h
theorem BB [ok:Ok C k] {zs:List HV} {ps:List (Nat×Nat×HX)} {qs:List (Nat×Nat×HV)} {side:Prop} (hq:(ps.map fun p=>(p.1,p.2.1,ev sl p.2.2))=qs) (hw:lN zs qs=(ws,side)) (hs:side) (h:G P C all r (i+1) k rs K ((t,.agg ws)::sl) st nx):G P C all (⟨some t,.bld zs ps,none⟩::r) i k rs K sl st nx :=
 dm ok.mono ok.plain (v:=.agg ws) (us:=[]) (side:=side) rfl rfl (by simp only [ae,HOp.map];rw [hq,hw]) hs rfl h
theorem wU [ok:Ok C k] {fr bytes:Nat} {zs:List HV} (hf:nx+stride*i=fr) (hx:ev sl x=.int .i64 a) (hs:0<=a/\bytes*a<=281474976710656/\a<=9223372036854775807) (hm:a.toNat=m) (hcs:(List.replicate m zs).flatten=cs)
  (h:G P C all r (i+1) k rs K ((t,.ref fr [] sz 0 m)::sl) ((fr,.osl sz m cs)::st) nx):G P C all (⟨some t,.mksl sz bytes zs x,none⟩::r) i k rs K sl st nx:=by
 subst hf hcs hm
 exact dm ok.mono ok.plain (us:=[.put (nx+stride*i) (.osl sz a.toNat (List.replicate a.toNat zs).flatten)]) (side:=0<=a/\bytes*a<=281474976710656/\a<=9223372036854775807) rfl (by rw [HOp.map,hx]) rfl hs rfl h
theorem wJ [ok:Ok C k] {fr bytes:Nat} {fl:Bool} {sd:Prop} (hf:nx+stride*i=fr) (hx:ev sl x=.nils) (hy:ev sl y=w) (hn:aU (fun j=>au j st) fl sz w=(m,ws,[],sd)) (hs:sd) (hb:m*bytes<=140737488355328) (hm:m<=maxLen)
  (h:G P C all r (i+1) k rs K ((t,.ref fr [] sz 0 m)::sl) ((fr,.osl sz m ws)::st) nx):G P C all (⟨some t,.app fl sz bytes x y,none⟩::r) i k rs K sl st nx:=by
 subst hf
 refine dm ok.mono ok.plain (us:=[.put (nx+stride*i) (.osl sz m ws)]) (side:=sd/\m*bytes<=140737488355328/\m<=maxLen) rfl (by rw [HOp.map,hx,hy]) ?_ ⟨hs,hb,hm⟩ rfl h
 simp only [ae,hn]
 rfl
theorem wB [ok:Ok C k] {fr bytes sz2 n2 q:Nat} {fl:Bool} {sd:Prop} {u':HV} (hf:nx+stride*i=fr) (hx:ev sl x=.ref id path sz off n) (hy:ev sl y=w) (hn:aU (fun j=>au j st) fl sz w=(m,ws,[],sd)) (hs:sd) (ht:au id st=u) (hg:ah u path=.osl sz2 n2 cs) (hq:n+m=q)
  (hb:q*bytes<=140737488355328) (hm:q<=maxLen) (hl:off+n*sz<=cs.length) (hc:win cs off (n*sz)++ws=cs') (hd:cu .dead u path=u')
  (h:G P C all r (i+1) k rs K ((t,.ref fr [] sz 0 q)::sl) ((fr,.osl sz q cs')::(id,u')::st) nx):G P C all (⟨some t,.app fl sz bytes x y,none⟩::r) i k rs K sl st nx:=by
 subst hf hd hc ht hq
 refine dm ok.mono ok.plain (us:=[.put id (cu .dead (au id st) path),.put (nx+stride*i) (.osl sz (n+m) (win cs off (n*sz)++ws))]) (side:=sd/\(n+m)*bytes<=140737488355328/\n+m<=maxLen/\sz=sz/\off+n*sz<=cs.length) rfl (by rw [HOp.map,hx,hy]) ?_ ⟨hs,hb,hm,rfl,hl⟩ rfl h
 simp only [ae,hn,Lk.upd,hg,List.nil_append]
theorem zZ [ok:Ok C k] {f:FuncId} {xs:List HX} {vs:List HV} (hvs:xs.map (ev sl)=vs) (h:G P C all r (i+1) k rs K ((t,.fn f vs)::sl) st nx):G P C all (⟨some t,.mkfn f xs,none⟩::r) i k rs K sl st nx :=
 dm ok.mono ok.plain (v:=.fn f vs) (us:=[]) (side:=True) rfl (by rw [HOp.map,hvs]) rfl trivial rfl h
def PP:HV->Bool
 | .ptr ..=>true
 | .pref ..=>true
 | .fn ..=>true
 | _=>false
theorem tq [ok:Ok C k] (hx:ev sl x=v) (hv:PP v=true) (h:G P C all r (i+1) k rs K ((t,v)::sl) st nx):G P C all (⟨some t,.nilck x,none⟩::r) i k rs K sl st nx :=
 dm ok.mono ok.plain (v:=v) (us:=[]) (side:=True) rfl (by rw [HOp.map,hx]) (by cases v<;>first|rfl|cases hv) trivial rfl h
theorem o6 [ok:Ok C k] (hx:ev sl x=v) (hv:PP v=true) (h:G P C all r (i+1) k rs K sl st nx):G P C all (⟨none,.nilck x,none⟩::r) i k rs K sl st nx :=
 dm ok.mono ok.plain (v:=v) (us:=[]) (side:=True) rfl (by rw [HOp.map,hx]) (by cases v<;>first|rfl|cases hv) trivial rfl h
theorem kQ {op:HOp HX} {j e:Nat} {want:Bool} (hd:(all[j]?).bind (·.dst)=some e) (hb:au e sl=.bool want) (h:G P C all (⟨d,op,none⟩::r) i k rs K sl st nx):G P C all (⟨d,op,some (j,want)⟩::r) i k rs K sl st nx:=Q8 hd hb h
theorem uX [ok:Ok C k] {op:HOp HX} {j e:Nat} {want:Bool} (hd:(all[j]?).bind (·.dst)=some e) (hb:au e sl=.bool (!want)) (h:G P C all r (i+1) k rs K ((t,.tup [])::sl) st nx):G P C all (⟨some t,op,some (j,want)⟩::r) i k rs K sl st nx:=by
 refine PR hd hb ?_
 exact wP ok.mono ok.plain (s:=⟨(t,.tup [])::sl,st,nx⟩) (sW (us:=[]) (d:=some t) (v:=(.tup [])) rfl) h
theorem rE {op:HOp HX} {j e:Nat} {want:Bool} (hd:(all[j]?).bind (·.dst)=some e) (hb:au e sl=.bool (!want)) (h:G P C all r (i+1) k rs K sl st nx):G P C all (⟨none,op,some (j,want)⟩::r) i k rs K sl st nx:=PR hd hb h
theorem qO [ok:Ok C k] {op:HOp HX} {j e:Nat} {want:Bool} (hd:(all[j]?).bind (·.dst)=some e) (hb:au e sl=.tup []) (h:G P C all r (i+1) k rs K ((t,.tup [])::sl) st nx):G P C all (⟨some t,op,some (j,want)⟩::r) i k rs K sl st nx:=by
 refine Kz rfl hd hb ?_
 exact wP ok.mono ok.plain (s:=⟨(t,.tup [])::sl,st,nx⟩) (sW (us:=[]) (d:=some t) (v:=.tup []) rfl) h
theorem iZ {nx':Nat} (hn:nx+stride*all.length=nx') (h:hx P k (finish rs K) ⟨sl,st,nx'⟩):G P C all [] i k rs K sl st nx:=by
 subst hn
 show hx P (.o C all [] i::k) (finish rs K) ⟨sl,st,nx⟩
 rw [LP];exact h
theorem bU [ok:Ok (HS P) k] {f:FuncId} {xs:List HX} {vs args:List HV} {K':HV->Prop} (hvs:xs.map (ev sl)=vs) (ha:bI bn (fun j=>au j st) vs=args) (hC:HT P f args K')
  (h:∀v,K' v->(aI vs || v.noRd)=true/\∃v' us n2 sl' st',unpack (nx+stride*i) v=(v',us,n2)/\n2<=nx+stride*(i+1)/\OA d v' (BR sl st us)=(sl',st')/\G P (HS P) all r (i+1) k rs K sl' st' nx) :
  G P (HS P) all (⟨d,.call f xs,none⟩::r) i k rs K sl st nx:=by
 subst hvs
 refine N7 (ha▸hC) ?_
 intro v hv
 obtain ⟨h1,v',us,n2,sl',st',h2,h3,h4,h5⟩:=h v hv
 rw [h2]
 exact ⟨h1,h3,wP ok.mono ok.plain (sW h4) h5⟩
theorem ou [ok:Ok (HS P) k] {f:FuncId} {xs:List HX} {cap vs args:List HV} {K':HV->Prop} (hx:ev sl x=.fn f cap) (hvs:xs.map (ev sl)=vs) (ha:bI bn (fun j=>au j st) (vs++cap)=args) (hC:HT P f args K')
  (h:∀v,K' v->(aI (vs++cap) || v.noRd)=true/\∃v' us n2 sl' st',unpack (nx+stride*i) v=(v',us,n2)/\n2<=nx+stride*(i+1)/\OA d v' (BR sl st us)=(sl',st')/\G P (HS P) all r (i+1) k rs K sl' st' nx) :
  G P (HS P) all (⟨d,.callv x xs,none⟩::r) i k rs K sl st nx:=by
 subst hvs
 refine Nj hx (ha▸hC) ?_
 intro v hv
 obtain ⟨h1,v',us,n2,sl',st',h2,h3,h4,h5⟩:=h v hv
 rw [h2]
 exact ⟨h1,h3,wP ok.mono ok.plain (sW h4) h5⟩
end
section
variable {P:Program} {k:List HI} {Q:HE->St->Prop} {s:St}
def LI {α:Type} (Inv:α->Prop) (S:α->St) (s:St):Prop:=∃a,Inv a/\s=S a
open Classical in
noncomputable def Lμ {α:Type} (Inv:α->Prop) (S:α->St) (m:α->Nat) (s:St):Nat:=if h:∃n,∃a,Inv a/\s=S a/\m a=n then Classical.choose (iM h) else 0
theorem Et {α:Type} {Inv:α->Prop} {S:α->St} {m:α->Nat} {s:St} (h:LI Inv S s):(∃a,Inv a/\s=S a/\m a=Lμ Inv S m s)/\∀a,Inv a->s=S a->Lμ Inv S m s<=m a:=by
 have hex:∃n,∃a,Inv a/\s=S a/\m a=n:=by obtain ⟨a,h1,h2⟩:=h;exact ⟨m a,a,h1,h2,rfl⟩
 have e:Lμ Inv S m s=Classical.choose (iM hex):=by unfold Lμ;rw [dif_pos hex]
 rw [e]
 have hs:=ML (iM hex)
 exact ⟨hs.1,fun a h1 h2=>hs.2 _ ⟨a,h1,h2,rfl⟩⟩
theorem aQ {α:Type} {b:HCode} (keep:List Nat) (Inv:α->Prop) (S:α->St) (m:α->Nat) (a0:α) (h0:Inv a0) (hn:norm2 keep s=S a0) (hr:∀a,Inv a->hx P (.c b::.l (LI Inv S) (Lμ Inv S m) (m a)::k) Q (S a)):hx P (.c (.loop b)::k) Q s:=by
 refine O9 (LI Inv S) (Lμ Inv S m) (S a0) (hn▸Weak.norm2 keep s) ⟨a0,h0,rfl⟩ ?_
 intro s1 h1
 obtain ⟨⟨a,h2,h3,h4⟩,_⟩:=Et (m:=m) h1
 rw [<- h4]
 subst h3
 exact hr a h2
theorem bg {α:Type} {n:Nat} (keep:List Nat) {Inv:α->Prop} {S:α->St} {m:α->Nat} (a:α) (h1:Inv a) (h2:m a<n) (hn:norm2 keep s=S a):hx P (.l (LI Inv S) (Lμ Inv S m) n::k) Q s:=by
 refine TM (S a) (hn▸Weak.norm2 keep s) ⟨a,h1,rfl⟩ ?_
 exact Nat.lt_of_le_of_lt ((Et (m:=m) ⟨a,h1,rfl⟩).2 a h1 rfl) h2
theorem dY {x:HCode} (id:Nat) (keep:List Nat) (s0:St) (hn:norm2 keep (freeze id s)=s0) (h:hx P (.c x::k) Q s0):hx P (.c x::k) Q s:=yJ ((Weak.freeze id s).trans (hn▸Weak.norm2 keep (freeze id s))) h
theorem Jv {x:HCode} (id:Nat) (keep:List Nat) (s0:St) (hn:norm2 keep (unbox id s)=s0) (h:hx P (.c x::k) Q s0):hx P (.c x::k) Q s:=yJ ((Weak.unbox id s).trans (hn▸Weak.norm2 keep (unbox id s))) h
theorem gI {x:HCode} (keep:List Nat) (s0:St) (hn:norm2 keep s=s0) (h:hx P (.c x::k) Q s0):hx P (.c x::k) Q s:=yJ (hn▸Weak.norm2 keep s) h
theorem Oz {rs:List Nat} {K:HV->Prop} {sl st:List (Nat×HV)} {nx:Nat} {vs0 vs:List HV} {us:List dJ} {side:Prop} (hvs:(rs.map fun r=>au r sl)=vs0) (h0:ak (fun j=>au j st) vs0=(vs,us,side)) (hs:side) (hK:K (fJ vs)) :
  hx P (.c .ret::k) (finish rs K) ⟨sl,st,nx⟩:=Py (by rw [hvs];exact h0) hs hK
theorem az {rs:List Nat} {K:HV->Prop} {sl st:List (Nat×HV)} {nx:Nat} {vs0 vs:List HV} {us:List dJ} {side:Prop} (hK:K (fJ vs)) (hvs:(rs.map fun r=>au r sl)=vs0:=by (try simp only [iy,List.map_nil]);repeat (first|(apply UI;· exact ag)|rfl)) (h0:ak (fun j=>au j st) vs0=(vs,us,side):=by simp only [ak,takeD,takeC,au,Lk.upd,if_true,if_false,reduceIte,Nat.reduceEqDiff,List.append_nil,List.nil_append];try rfl) (hs:side:=by first|trivial|(refine ⟨?_,?_⟩<;>trivial)|(simp only [and_true,true_and];done)):hx P (.c .ret::k) (finish rs K) ⟨sl,st,nx⟩:=Oz hvs h0 hs hK
end
theorem IB {P:Program} {rs:List Nat} {K:HV->Prop} {sl st:List (Nat×HV)} {nx:Nat} {vs0 vs:List HV} {us:List dJ} {side:Prop} (hvs:(rs.map fun r=>au r sl)=vs0) (h0:ak (fun j=>au j st) vs0=(vs,us,side)) (hs:side) (hK:K (fJ vs)) :
  hx P [] (finish rs K) ⟨sl,st,nx⟩:=by
 unfold hx hk finish
 simp only
 have hM:St.M ⟨sl,st,nx⟩=fun j=>au j st:=rfl
 rw [hM,hvs,h0]
 exact ⟨hs,hK⟩
section
variable {P:Program} {E:Fr} {N fr:Nat} {sl st:Lk} {loc:Nat->Value} {fp:Nat->List Nat} {a:Act} {w:World}
theorem SRel.same {s s':St} (h:SRel E N s a w) (h1:s.S=s'.S) (h2:s.M=s'.M):SRel E N s' a w:=by
 obtain ⟨loc,fp,h⟩:=h
 exact ⟨loc,fp,h1▸h2▸h⟩
theorem SRel.freeze {s:St} (id:Nat) (h:SRel E N s a w):SRel E N (freeze id s) a w:=Weak.freeze id { s with nx:=N } E a w h
end
section
variable {P:Program} {all r:List HOper} {i:Nat} {k:List HI} {rs:List Nat} {K:HV->Prop} {sl sl1 sl' st:List (Nat×HV)} {nx:Nat} {x y:HX} {t id sz bytes n m fr q:Nat} {cs ws cs':List HV} {v:HV} {sd:Prop}
end
end Go.HL
end
section
namespace Go.HL
open Go.RowKit
open Go.ChangeMaps (setBlock)
section
variable {P:Program} {E:Fr} {N fr:Nat} {sl st:Lk} {loc:Nat->Value} {fp:Nat->List Nat} {a:Act} {w:World}
end
end Go.HL
end
section
namespace Go.HL
open Go.RowKit
theorem eM {v:HV} {id:Nat} {p:List Nat} (h:v=.mref id p):v=.mref id p:=h
theorem eK {v:HV} (h:v=.nilm):v=.nilm:=h
theorem eV {v:HV} {m:MK} {ks cs:List HV} (h:v=.rmap m ks cs):v=.rmap m ks cs:=h
theorem eY {v:HV} {m:MK} {ks cs:List HV} (h:v=.omap m ks cs):v=.omap m ks cs:=h
def Gy (ks cs:List HV) (z k:HV):HV×Bool :=
 match dh k ks with
 | some j=>(cs.getD j .dead,true)
 | none=>(z,false)
def AX (id:Nat) (p:List Nat) (ks cs:List HV) (z k:HV):HV×Bool :=
 match dh k ks with
 | some j=>(look id p j (cs.getD j .dead),true)
 | none=>(z,false)
theorem Jq {id j:Nat} {p:List Nat} {v:HV} (h:fH v=true):look id p j v=v:=by
 cases v<;>first|rfl|cases h
theorem GL {id:Nat} {p:List Nat} {ks cs:List HV} {z k:HV} (hl:cs.length=ks.length) (h:aZ cs=true):AX id p ks cs z k=Gy ks cs z k:=by
 unfold AX Gy
 cases hf:dh k ks with
 | none=>rfl
 | some j =>
  have hj:j<cs.length:=by rw [hl];exact mV hf
  have:fH (cs.getD j .dead)=true:=by
   have:=zl014.1 h _ (Bq hj)
   simpa [hj] using this
  simp only [Jq this]
structure KF {α:Type} [DecidableEq α] (f:α->HV):Prop where
 eq:∀a b,tY (f a) (f b)=decide (a=b)
theorem wG {α:Type} [DecidableEq α] {f:α->HV} (K:KF f) (a:α):∀l:List α,dh (f a) (l.map f)=if a∈l then some (l.idxOf a) else none
 | []=>rfl
 | b::l=>by
  simp only [iy,dh,K.eq,wG K a l,zl008]
  by_cases h:a=b
  ·subst h;simp
  ·have h':¬ b=a:=fun e=>h e.symm
   by_cases h2:a∈l
   ·have hb:(b==a)=false:=by simpa using h'
    simp [h,h2,List.idxOf_cons,hb]
   ·simp [h,h2]
theorem Nw {α:Type} [DecidableEq α] {f g:α->HV} (K:KF f) (a:α) (l:List α) (z:HV):Gy (l.map f) (l.map g) z (f a)=if a∈l then (g a,true) else (z,false):=by
 unfold Gy
 rw [wG K]
 by_cases h:a∈l
 ·simp only [if_pos h]
  have hj:l.idxOf a<l.length:=List.idxOf_lt_length_of_mem h
  simp [dS hj]
 ·simp only [if_neg h]
def ins {α:Type} [DecidableEq α] (a:α) (l:List α):List α:=if a∈l then l else l++[a]
abbrev FB (n:Nat):List HV:=List.replicate n (.bool true)
theorem O7 {α:Type} (l:List α):FB l.length=l.map fun _=>HV.bool true:=by simp only [FB];exact (List.map_const' ..).symm
theorem Nh {α:Type} [DecidableEq α] {f:α->HV} (K:KF f) (a:α) (l:List α):Gy (l.map f) (FB l.length) (.bool false) (f a)=(.bool (decide (a∈l)),decide (a∈l)):=by
 rw [O7,Nw K]
 by_cases h:a∈l<;>simp [h]
theorem KP {α:Type} [DecidableEq α] {f:α->HV} (K:KF f) {id:Nat} {p:List Nat} (a:α) (l:List α):AX id p (l.map f) (FB l.length) (.bool false) (f a)=(.bool (decide (a∈l)),decide (a∈l)):=by
 rw [GL (by simp [FB]) (by simp [FB,aZ,fH]),Nh K]
theorem MB {α:Type} [DecidableEq α] {f:α->HV} (K:KF f) {kd:KK} (a:α) (l:List α):Ac ⟨kd,none⟩ (l.map f) (FB l.length) (f a) (.bool true)=.omap ⟨kd,none⟩ ((ins a l).map f) (FB (ins a l).length):=by
 unfold Ac ins
 rw [wG K]
 by_cases h:a∈l
 ·simp only [if_pos h]
  congr 1
  apply o7
  intro i
  rw [List.getElem?_set]
  split
  ·rename_i e;subst e
   have:l.idxOf a<(FB l.length).length:=by simpa [FB] using List.idxOf_lt_length_of_mem h
   have h2:l.idxOf a<l.length:=List.idxOf_lt_length_of_mem h
   simp [FB,h2]
  ·rfl
 ·simp only [if_neg h]
  simp [MK.grow,FB,List.replicate_succ']
abbrev ik (x:Int):HV:=.int .i64 x
theorem PN:KF ik:=⟨fun a b=>by simp only [tY];by_cases h:a=b<;>simp [h]⟩
section
variable {P:Program} {C:CallSpec} {all r:List HOper} {i:Nat} {k:List HI} {rs:List Nat} {K:HV->Prop} {sl st sl' st':List (Nat×HV)} {nx:Nat}
variable {x y z:HX} {t:Nat} {u v w w' zz kx T:HV} {kk:KK} {b ok':Bool} {cs ks:List HV} {m:MK} {n id off sz:Nat} {path:List Nat}
theorem sS [ok:Ok C k] {fr:Nat} (hf:nx+stride*i=fr) (h:G P C all r (i+1) k rs K ((t,.mref fr [])::sl) ((fr,.omap ⟨kk,none⟩ [] [])::st) nx):G P C all (⟨some t,.mkmap kk,none⟩::r) i k rs K sl st nx:=by
 subst hf
 exact dm ok.mono ok.plain (v:=.mref _ []) (us:=[.put _ (.omap ⟨kk,none⟩ [] [])]) (side:=True) rfl rfl rfl trivial rfl h
theorem CW [ok:Ok C k] (hx:ev sl x=.nilm) (hk:ev sl y=kx) (hg:bG kk kx=true) (hv:okV ok' zz false=v) (h:G P C all r (i+1) k rs K ((t,v)::sl) st nx):G P C all (⟨some t,.mlook ok' kk zz x y,none⟩::r) i k rs K sl st nx :=
 dm ok.mono ok.plain (v:=v) (us:=[]) (side:=bG kk kx=true) rfl (by rw [HOp.map,hx,hk]) (by subst hv;rfl) hg rfl h
theorem CQ [ok:Ok C k] (hx:ev sl x=.rmap m ks cs) (hk:ev sl y=kx) (hg:m.kind=kk/\bG kk kx=true) (hm:Gy ks cs zz kx=(w,b)) (hv:okV ok' w b=v) (h:G P C all r (i+1) k rs K ((t,v)::sl) st nx):G P C all (⟨some t,.mlook ok' kk zz x y,none⟩::r) i k rs K sl st nx:=by
 refine dm ok.mono ok.plain (v:=v) (us:=[]) (side:=m.kind=kk/\bG kk kx=true) rfl (by rw [HOp.map,hx,hk]) ?_ hg rfl h
 subst hv
 unfold Gy at hm
 cases hf:dh kx ks<;>rw [hf] at hm<;>simp only [kD] at hm<;>obtain ⟨rfl,rfl⟩:=hm<;>simp only [ae,hf]
theorem BQ [ok:Ok C k] (hx:ev sl x=.mref id path) (hu:au id st=u) (hn:ah u path=.omap m ks cs) (hk:ev sl y=kx) (hg:m.kind=kk/\bG kk kx=true) (hm:AX id path ks cs zz kx=(w,b)) (hv:okV ok' w b=v) (h:G P C all r (i+1) k rs K ((t,v)::sl) st nx):G P C all (⟨some t,.mlook ok' kk zz x y,none⟩::r) i k rs K sl st nx:=by
 refine dm ok.mono ok.plain (v:=v) (us:=[]) (side:=m.kind=kk/\bG kk kx=true) rfl (by rw [HOp.map,hx,hk]) ?_ hg rfl h
 subst hv hu
 unfold AX at hm
 cases hf:dh kx ks<;>rw [hf] at hm<;>simp only [kD] at hm<;>obtain ⟨rfl,rfl⟩:=hm<;>simp only [ae,hn,hf]
theorem wO [ok:Ok C k] {us:List dJ} {sd:Prop} (hx:ev sl x=.mref id path) (hk:ev sl y=kx) (hy:ev sl z=w) (ht:takeC (fun j=>au j st) w=(w',us,sd)) (hs:sd) (hu0:Lk.upd (fun j=>au j st) us id=u) (hn:ah u path=.omap m ks cs) (hg:m.kind=kk/\bG kk kx=true) (hp:Ac m ks cs kx w'=T) (hse:cu T u path=v)
  (hu:BR sl st (us++[.kill id path.length]++[.put id v])=(sl',st')) (h:G P C all r (i+1) k rs K sl' st' nx):G P C all (⟨none,.mset kk x y z,none⟩::r) i k rs K sl st nx:=by
 subst hse hp hu0
 refine dm ok.mono ok.plain (v:=.dead) (us:=us++[.kill id path.length]++[.put id (cu (Ac m ks cs kx w') (Lk.upd (fun j=>au j st) us id) path)]) (side:=sd/\m.kind=kk/\bG kk kx=true) rfl (by rw [HOp.map,hx,hk,hy]) ?_ ⟨hs,hg⟩ (by rw [hu];rfl) h
 simp only [ae,ht,hn]
theorem tH [ok:Ok C k] (hx:ev sl x=.nilm) (h:G P C all r (i+1) k rs K ((t,.int .i64 0)::sl) st nx):G P C all (⟨some t,.mlen x,none⟩::r) i k rs K sl st nx :=
 dm ok.mono ok.plain (v:=.int .i64 0) (us:=[]) (side:=True) rfl (by rw [HOp.map,hx]) rfl trivial rfl h
theorem tJ [ok:Ok C k] {n:Nat} (hx:ev sl x=.rmap m ks cs) (hn:ks.length=n) (h:G P C all r (i+1) k rs K ((t,.int .i64 (n:Int))::sl) st nx):G P C all (⟨some t,.mlen x,none⟩::r) i k rs K sl st nx:=by
 subst hn
 exact dm ok.mono ok.plain (v:=.int .i64 ks.length) (us:=[]) (side:=True) rfl (by rw [HOp.map,hx]) rfl trivial rfl h
theorem tu [ok:Ok C k] {n:Nat} (hx:ev sl x=.mref id path) (hu:au id st=u) (hn:ah u path=.omap m ks cs) (hl:ks.length=n) (h:G P C all r (i+1) k rs K ((t,.int .i64 (n:Int))::sl) st nx):G P C all (⟨some t,.mlen x,none⟩::r) i k rs K sl st nx:=by
 subst hl hu
 exact dm ok.mono ok.plain (v:=.int .i64 ks.length) (us:=[]) (side:=True) rfl (by rw [HOp.map,hx]) (by simp only [ae,hn]) trivial rfl h
theorem tN [ok:Ok C k] (hx:ev sl x=.nilm) (h:G P C all r (i+1) k rs K ((t,.bool (!b))::sl) st nx):G P C all (⟨some t,.mnil b x,none⟩::r) i k rs K sl st nx :=
 dm ok.mono ok.plain (v:=.bool (!b)) (us:=[]) (side:=True) rfl (by rw [HOp.map,hx]) rfl trivial rfl h
theorem sF [ok:Ok C k] (hx:ev sl x=.rmap m ks cs) (h:G P C all r (i+1) k rs K ((t,.bool b)::sl) st nx):G P C all (⟨some t,.mnil b x,none⟩::r) i k rs K sl st nx :=
 dm ok.mono ok.plain (v:=.bool b) (us:=[]) (side:=True) rfl (by rw [HOp.map,hx]) rfl trivial rfl h
theorem sQ [ok:Ok C k] (hx:ev sl x=.mref id path) (hu:au id st=u) (hn:ah u path=.omap m ks cs) (h:G P C all r (i+1) k rs K ((t,.bool b)::sl) st nx):G P C all (⟨some t,.mnil b x,none⟩::r) i k rs K sl st nx:=by
 subst hu
 exact dm ok.mono ok.plain (v:=.bool b) (us:=[]) (side:=True) rfl (by rw [HOp.map,hx]) (by simp only [ae,hn]) trivial rfl h
end
theorem dP {p:Prop} (h:p:=by (try simp only [go_sem,reduceIte,Nat.reduceEqDiff,Nat.reduceAdd,Nat.reduceMul]);try rfl):p:=h
theorem UK {p:Prop} (h:p:=by simp only [unpack,aH,List.append_nil,List.nil_append,List.cons_append,stride,Nat.reduceAdd,Nat.reduceMul,Nat.zero_add];try rfl):p:=h
theorem U4 {p:Prop} (h:p:=by simp only [ak,takeD,takeC,au,Lk.upd,if_true,if_false,reduceIte,Nat.reduceEqDiff,List.append_nil,List.nil_append];try rfl):p:=h
theorem uQ {p:Prop} (h:p:=by first|exact U1 (by omega)|exact UW (by omega)|rfl):p:=h
theorem Uy {p:Prop} (h:p:=by first|trivial|(refine ⟨?_,?_⟩<;>trivial)|(simp only [and_true,true_and];done)):p:=h
theorem yL {p:Prop} (h:p:=by (try simp (disch:=omega) only [au,go_sem,reduceIte,Nat.reduceEqDiff,Nat.reduceAdd,Nat.reduceMul]);try rfl):p:=h
theorem jB {p:Prop} (h:p:=by (try simp (disch:=omega) only [go_sem,Int.reduceAdd,Int.reduceSub,Int.reduceMul]);try rfl):p:=h
theorem PV {p:Prop} (h:p:=by simp only [ak,takeD,takeC,au,Lk.upd,if_true,if_false,reduceIte,Nat.reduceEqDiff,List.append_nil,List.nil_append,List.cons_append];try rfl):p:=h
theorem ag {p:Prop} (h:p:=by first|exact eI rfl|exact eB rfl|exact eR rfl|exact eS rfl|exact eP rfl|exact eT rfl|exact eA rfl|exact eN rfl|exact eQ rfl|exact eF rfl|exact eD rfl|exact eM rfl|exact eK rfl|exact eV rfl|exact eX rfl|exact eL rfl):p:=h
theorem aY {p:Prop} (h:p:=by (try simp only [iy,List.map_nil]);repeat (first|(apply UI;· exact ag)|rfl)):p:=h
theorem iQ {p:Prop} (h:p:=by simp (disch:=omega) only [bI,HV.thaw,bn,au,ah,if_true,if_false,reduceIte,Nat.reduceEqDiff,stripL,HV.strip,dQ,cO,Nat.mul_one,List.cons_append,List.nil_append,List.append_nil,I,Bl,T3,List.getD_cons_zero,List.getD_cons_succ,HL.ints_strip,HL.bools_strip,dF];try rfl):p:=h
theorem aF {p:Prop} (h:p:=by (try simp only [go_sem]);first|omega|decide):p:=h
theorem ax {p:Prop} (h:p:=by (try simp only [go_sem]);try rfl):p:=h
theorem o8 {p:Prop} (h:p:=by simp only [BR,List.cons_append,List.nil_append,List.append_nil,iy,List.map_nil,HV.kill,nY,List.length_nil,List.length_cons,Nat.reduceEqDiff,Nat.reduceLT,Nat.reduceAdd,if_true,if_false,reduceIte,and_true,true_and,and_false,false_and,and_self,reduceCtorEq,Nat.lt_irrefl];try rfl):p:=h
theorem fU {p:Prop} (h:p:=by (try simp (disch:=omega) only [go_sem,reduceIte,Nat.reduceEqDiff,Nat.reduceAdd,Nat.reduceMul,zf]);try rfl):p:=h
theorem gq {p:Prop} (h:p:=by (try simp (disch:=omega) only [go_sem,Int.reduceAdd,Int.reduceSub,Int.reduceMul,zf]);try rfl):p:=h
theorem jl {p:Prop} (h:p:=by (try simp (disch:=omega) only [go_sem,reduceIte,Nat.reduceEqDiff,Nat.reduceAdd,Nat.reduceMul]);try rfl):p:=h
theorem eH {p:Prop} (h:p:=by first|rfl|exact HL.ints_flat _|exact HL.bools_flat _):p:=h
theorem bz {p:Prop} (h:p:=by first|exact eO rfl|exact eW rfl):p:=h
theorem nH {p:Prop} (h:p:=by (try simp (disch:=omega) only [go_sem,reduceIte,Nat.reduceEqDiff,Nat.reduceAdd,Nat.reduceMul,<- hk]);try rfl):p:=h
theorem qj {p:Prop} (h:p:=by simp only [dO,takeC,au,Lk.upd,if_true,if_false,reduceIte,Nat.reduceEqDiff,List.append_nil,List.nil_append,List.cons_append];try rfl):p:=h
theorem qo {p:Prop} (h:p:=by (try simp (disch:=omega) only [go_sem,Int.reduceAdd,Int.reduceSub,Int.reduceMul,<- hk]);try rfl):p:=h
theorem kK {p:Prop} (h:p:=by first|exact UT (by omega)|exact UM (by omega)|rfl):p:=h
theorem qi {p:Prop} (h:p:=by simp only [takeC,au,Lk.upd,if_true,if_false,reduceIte,Nat.reduceEqDiff];try rfl):p:=h
theorem lI {p:Prop} (h:p:=by (try simp (disch:=omega) only [go_sem]);try rfl):p:=h
theorem ny {p:Prop} (h:p:=by first|exact UX (by omega)|exact eqF (by omega)|rfl):p:=h
theorem dD {p:Prop} (h:p:=by simp only;omega):p:=h
theorem CO {p:Prop} (h:p:=by (try simp (disch:=omega) only [go_sem,reduceIte,Nat.reduceEqDiff,Nat.reduceAdd,Nat.reduceMul,zf]);try omega):p:=h
theorem rF {p:Prop} (h:p:=by first|exact UY (by omega)|exact UV (by omega)|rfl):p:=h
theorem CY {p:Prop} (h:p:=by (try simp (disch:=omega) only [go_sem,reduceIte,Nat.reduceEqDiff,Nat.reduceAdd,Nat.reduceMul]);try omega):p:=h
theorem qN {p:Prop} (h:p:=by (try simp (disch:=omega) only [go_sem,zf]);try rfl):p:=h
theorem bM {p:Prop} (h:p:=by kernel_rfl):p:=h
theorem Dl {p:Prop} (h:p:=by (try simp only [iy,List.map_nil]);repeat (first|(apply UN;· exact ag)|rfl)):p:=h
theorem AV {p:Prop} (h:p:=by simp only [Lk.upd,au,if_true,if_false,reduceIte,Nat.reduceEqDiff,reduceCtorEq];try rfl):p:=h
theorem rP {p:Prop} (h:p:=by (try simp only [go_sem,reduceIte]);try rfl):p:=h
theorem Bh {p:Prop} (h:p:=by simp only [lN,setFrom,cellsOf,List.set_cons_zero,List.set_cons_succ];try rfl):p:=h
theorem IJ {p:Prop} (h:p:=by (try simp (disch:=omega) only [fK,go_sem,reduceIte,Nat.reduceEqDiff,Nat.reduceAdd,Nat.reduceMul,zf]);try rfl):p:=h
theorem vz {p:Prop} (h:p:=by (try simp only [go_sem,reduceIte,zf]);try rfl):p:=h
theorem IK {p:Prop} (h:p:=by (try simp (disch:=omega) only [fK,go_sem,reduceIte,Nat.reduceEqDiff,Nat.reduceAdd,Nat.reduceMul]);try rfl):p:=h
theorem kN {p:Prop} (h:p:=by unfold maxLen;omega):p:=h
end Go.HL
end
