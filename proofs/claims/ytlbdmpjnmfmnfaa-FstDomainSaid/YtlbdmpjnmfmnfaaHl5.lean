import Derived.Test.YtlbdmpjnmfmnfaaHl4
import Derived.Maps.RangeRun
set_option linter.unusedSimpArgs false
set_option linter.unusedVariables false
section
namespace Go.HL
def sorted:List (Nat×HV)->Bool
 | []=>true
 | (k,_)::r=>(match r with|[]=>true|(k2,_)::_=>decide (k<k2))&&sorted r
theorem BK {p:Nat->Prop} (h:∃m,p m):∃m,p m/\∀k,p k->m<=k:=by
 obtain ⟨m,hm⟩:=h
 induction m using Nat.strongRecOn with
 | _ m ih =>
  by_cases h:∃k,k<m/\p k
  ·obtain ⟨k,h1,h2⟩:=h;exact ih k h1 h2
  ·exact ⟨m,hm,fun k hk=>by
    rcases dX k m with h1|h1
    ·exact absurd ⟨k,h1,hk⟩ h
    ·exact h1⟩
abbrev Tbl:=List (FuncId×HCode×List Nat×Nat)
def tblOK (P:Program) (tbl:Tbl):Prop:=∀e∈tbl,bu P e.1=some e.2
theorem tblOK.nil {P:Program}:tblOK P []:=by intro e h;cases h
theorem tblOK.cons {P:Program} {f c rs T} {tbl:Tbl} (h:bu P f=some (c,rs,T)) (h2:tblOK P tbl):tblOK P ((f,c,rs,T)::tbl):=by
 intro e he
 rcases zl011.1 he with rfl|he
 ·exact h
 ·exact h2 e he
mutual
def HV.eqb:HV->HV->Bool
 | .int k n,.int k' n'=>decide (k=k')&&decide (n=n')
 | .bool b,.bool b'=>b==b'
 | .nils,.nils=>true
 | .nilp,.nilp=>true
 | .nilf,.nilf=>true
 | .sl n cs,.sl n' cs'=>decide (n=n')&&SQ cs cs'
 | .ptr cs o,.ptr cs' o'=>decide (o=o')&&SQ cs cs'
 | .agg cs,.agg cs'=>SQ cs cs'
 | .tup cs,.tup cs'=>SQ cs cs'
 | .fn f cs,.fn f' cs'=>decide (f=f')&&SQ cs cs'
 | _,_=>false
def SQ:List HV->List HV->Bool
 | [],[]=>true
 | a::r,b::q=>HV.eqb a b&&SQ r q
 | _,_=>false
end
abbrev adN:=List (FuncId×List HV×HV)
def memoOK (P:Program) (m:adN):Prop:=∀e∈m,HT P e.1 e.2.1 (·=e.2.2)
theorem memoOK.nil {P:Program}:memoOK P []:=by intro e h;cases h
theorem memoOK.cons {P:Program} {f:FuncId} {a:List HV} {v:HV} {m:adN} (h:HT P f a (·=v)) (h2:memoOK P m):memoOK P ((f,a,v)::m):=by
 intro e he
 rcases zl011.1 he with rfl|he
 ·exact h
 ·exact h2 e he
end Go.HL
end
section
namespace Go.HL
open Go.RowKit
def Eqv (s s':St):Prop:=s.S=s'.S/\s.M=s'.M/\s.nx=s'.nx
theorem Eqv.refl (s:St):Eqv s s:=⟨rfl,rfl,rfl⟩
theorem Eqv.symm {s s':St} (h:Eqv s s'):Eqv s' s:=⟨h.1.symm,h.2.1.symm,h.2.2.symm⟩
theorem Eqv.upd {s s':St} (h:Eqv s s') (us:List Upd) (d:Option Nat) (v:HV):Eqv ((s.upd us).put d v) ((s'.upd us).put d v):=by
 refine ⟨?_,?_,?_⟩
 ·rw [St.put_S,St.put_S,St.upd_S,St.upd_S,h.1]
 ·rw [St.put_M,St.put_M,St.upd_M,St.upd_M,h.2.1]
 ·rw [St.put_nx,St.put_nx,St.upd_nx,St.upd_nx,h.2.2]
theorem Eqv.put {s s':St} (h:Eqv s s') (d:Option Nat) (v:HV):Eqv (s.put d v) (s'.put d v):=h.upd [] d v
theorem Eqv.weak {s s' s2:St} (h:Eqv s s') (hw:Weak s s2):Weak s' s2:=by
 intro E a w hr
 refine hw E a w ?_
 obtain ⟨h1,h2,h3⟩:=h
 unfold SRel at *
 rw [h1,h2,h3]
 exact hr
theorem SE {C:CallSpec} (hC:Bc C) {s s':St} {i:Nat} {o:HOper} {K K':St->Prop} (he:Eqv s s') (hK:∀t t',Eqv t t'->K t->K' t') (h:hop C s i o K):hop C s' i o K':=by
 rcases h with h|h
 ·refine .inl ?_
  unfold hop0 at *
  have e1:ev s'.sl=ev s.sl:=by rw [jd,jd,he.1]
  have e2:(fun i=>au i s'.st)=fun i=>au i s.st:=he.2.1.symm
  rw [e1,e2,<- he.2.2]
  split at h
  ·exact hC.ap _ _ _ _ h fun r hr=>⟨hr.1,hr.2.1,hK _ _ (he.upd _ _ _) hr.2.2⟩
  ·exact hC.ap _ _ _ _ h fun r hr=>⟨hr.1,hr.2.1,hK _ _ (he.upd _ _ _) hr.2.2⟩
  ·exact ⟨h.1,hK _ _ (he.upd _ _ _) h.2⟩
 ·exact .inr (hC.eqv _ _ _ _ _ _ he.1 he.2.1 he.2.2 (hC.sem _ _ _ _ _ _ h fun t ht=>hK _ _ (Eqv.refl t) ht))
theorem Wy {C:CallSpec} (hC:Bc C) {all:List HOper} {K:St->Prop} (hK:∀s s',Eqv s s'->K s->K s'):∀ {r:List HOper} {i:Nat} {s s':St},Eqv s s'->hops C all r i K s->hops C all r i K s':=by
 intro r
 induction r with
 | nil=>intro i s s' he h;exact hK _ _ he h
 | cons o r ih =>
  intro i s s' he h
  have ed:(fun d=>au d s'.sl)=fun d=>au d s.sl:=he.1.symm
  simp only [hops] at h ⊢
  rw [ed]
  split at h
  ·exact SE hC he (fun t t' ht hh=>ih ht hh) h
  ·split at h
   ·exact ⟨fun hb=>SE hC he (fun t t' ht hh=>ih ht hh) (h.1 hb),fun hb=>ih (he.put o.dst (.tup [])) (h.2 hb)⟩
   ·exact ih (he.put o.dst (.tup [])) h
   ·exact h
def yI:List HI->Bool
 | []=>true
 | .o ..::_=>false
 | .c _::k=>yI k
 | .b _::k=>yI k
 | .l ..::k=>yI k
theorem PH {rs:List Nat} {K:HV->Prop} {e:HE} {s s':St} (he:Eqv s s') (h:finish rs K e s):finish rs K e s':=by
 have e1:∀r,au r s'.sl=au r s.sl:=fun r=>congrFun he.1.symm r
 have e2:(rs.map fun r=>au r s'.sl)=rs.map fun r=>au r s.sl:=by simp only [e1]
 unfold finish at *
 cases e with
 | normal=>simp only at h ⊢;rw [e2,<- he.2.1];exact h
 | ret=>simp only at h ⊢;rw [e2,<- he.2.1];exact h
 | exit i=>exact h
theorem KH {P:Program} {rs:List Nat} {K:HV->Prop} {k:List HI} (hp:yI k=true):∀ {e:HE} {s s':St},Eqv s s'->hk P k (finish rs K) e s->hk P k (finish rs K) e s':=by
 induction k with
 | nil=>intro e s s' he h;exact PH he h
 | cons a k ih =>
  intro e s s' he h
  cases a with
  | c x =>
   cases e with
   | normal=>obtain ⟨s1,hw,h1⟩:=h;exact ⟨s1,he.weak hw,h1⟩
   | exit i=>exact ih hp he h
   | ret=>exact ih hp he h
  | b id =>
   cases e with
   | normal=>exact ih hp he h
   | exit i =>
    simp only [hk] at h ⊢
    split
    ·rename_i hi;rw [if_pos hi] at h;exact ih hp he h
    ·rename_i hi;rw [if_neg hi] at h;exact ih hp he h
   | ret=>exact ih hp he h
  | o=>cases hp
  | l I μ m =>
   cases e with
   | normal=>obtain ⟨s1,hw,h1⟩:=h;exact ⟨s1,he.weak hw,h1⟩
   | exit i=>exact ih hp he h
   | ret=>exact ih hp he h
section
variable {P:Program} {C:CallSpec} {all r:List HOper} {i:Nat} {k:List HI} {rs:List Nat} {K:HV->Prop}
theorem lS (hC:Bc C) (hp:yI k=true) {s s':St} (he:Eqv s s') (h:hx P (.o C all r i::k) (finish rs K) s):hx P (.o C all r i::k) (finish rs K) s':=by
 unfold hx hk at *
 exact Wy hC (fun a b hab hh=>KH hp (s:={ a with nx:=a.nx+stride*all.length }) (s':={ b with nx:=b.nx+stride*all.length }) ⟨hab.1,hab.2.1,congrArg (fun n=>n+stride*all.length) hab.2.2⟩ hh) he h
def tV (sl st:List (Nat×HV)):List Upd->List (Nat×HV)×List (Nat×HV)
 | []=>(sl,st)
 | .put id t::r=>tV sl ((id,t)::st) r
 | .kill id len::r=>tV (sl.map fun p=>(p.1,p.2.kill id len)) st r
def Ae (d:Option Nat) (v:HV) (x:List (Nat×HV)×List (Nat×HV)):List (Nat×HV)×List (Nat×HV) :=
 match d with
 | none=>x
 | some d=>((d,v)::x.1,x.2)
theorem Ul (t d:Nat) (v:HV) (l:List (Nat×HV)):au t ((d,v)::l)=au t (Ii d v l):=by rw [iq];rfl
theorem Zu (us:List Upd):∀ (sl st:List (Nat×HV)) (nx:Nat) (s:St),Eqv s ⟨sl,st,nx⟩->Eqv (s.upd us) ⟨(tV sl st us).1,(tV sl st us).2,nx⟩:=by
 induction us with
 | nil=>intro sl st nx s h;exact h
 | cons u us ih =>
  intro sl st nx s h
  cases u with
  | put id t =>
   refine ih sl ((id,t)::st) nx _ ⟨h.1,?_,h.2.2⟩
   funext j
   have:au j s.st=au j st:=congrFun h.2.1 j
   show au j (Ii id t s.st)=_
   rw [iq]
   show _=au j ((id,t)::st)
   simp only [au,this]
  | kill id len =>
   refine ih _ st nx _ ⟨?_,h.2.1,h.2.2⟩
   funext j
   have:au j s.sl=au j sl:=congrFun h.1 j
   show au j (s.sl.map _)=au j (sl.map _)
   rw [qc,qc,this]
theorem mW {d:Option Nat} {v:HV} {us:List Upd} {sl st sl' st':List (Nat×HV)} {nx:Nat} (h:Ae d v (tV sl st us)=(sl',st')):Eqv ⟨sl',st',nx⟩ ((St.upd ⟨sl,st,nx⟩ us).put d v):=by
 have h1:=Zu us sl st nx ⟨sl,st,nx⟩ (Eqv.refl _)
 cases d with
 | none =>
  simp only [Ae] at h
  rw [h] at h1
  exact h1.symm
 | some d =>
  simp only [Ae,jg] at h
  obtain ⟨rfl,rfl⟩:=h
  refine Eqv.symm ⟨?_,?_,?_⟩
  ·rw [St.put_S]
   funext t
   have:=congrFun h1.1 t
   show (if some d=some t then v else _)=au t ((d,v)::_)
   simp only [bT,au]
   split
   ·rfl
   ·exact this
  ·rw [St.put_M];exact h1.2.1
  ·rw [St.put_nx];exact h1.2.2
variable {sl sl' st st':List (Nat×HV)} {nx:Nat} {d:Option Nat}
theorem dM (hC:Bc C) (hp:yI k=true) {op:HOp HX} {op':HOp HV} {v:HV} {us:List Upd} {side:Prop} (hnc:op.isCall=false) (ho:op.map (ev sl)=op') (h0:ah (fun j=>au j st) (nx+stride*i) op'=(v,us,side)) (hs:side)
  (hu:Ae d v (tV sl st us)=(sl',st')) (h:hx P (.o C all r (i+1)::k) (finish rs K) ⟨sl',st',nx⟩):hx P (.o C all (⟨d,op,none⟩::r) i::k) (finish rs K) ⟨sl,st,nx⟩:=by
 refine ac5 hnc ?_
 subst ho
 have e:(fun j=>au j st)=St.M ⟨sl,st,nx⟩:=rfl
 rw [e] at h0
 simp only
 rw [h0]
 exact ⟨hs,lS hC hp (mW hu) h⟩
class acg (C:CallSpec):Prop where
 mono:Bc C
instance:acg (HS P):=⟨HT.cmono P⟩
instance {D:FuncId->List HV->HV->Prop}:acg (CS P D):=⟨CS.cmono P D⟩
class Plain (k:List HI):Prop where
 plain:yI k=true
instance:Plain []:=⟨rfl⟩
instance {x:HCode} {k:List HI} [h:Plain k]:Plain (.c x::k):=⟨h.plain⟩
instance {id:Nat} {k:List HI} [h:Plain k]:Plain (.b id::k):=⟨h.plain⟩
instance {I:St->Prop} {μ:St->Nat} {m:Nat} {k:List HI} [h:Plain k]:Plain (.l I μ m::k):=⟨h.plain⟩
class Ok (C:CallSpec) (k:List HI):Prop where
 mono:Bc C
 plain:yI k=true
instance [h:acg C] [h2:Plain k]:Ok C k:=⟨h.mono,h2.plain⟩
theorem eI {v:HV} {k:IntKind} {n:Int} (h:v=.int k n):v=.int k n:=h
theorem eB {v:HV} {b:Bool} (h:v=.bool b):v=.bool b:=h
theorem eR {v:HV} {id:Nat} {p:List Nat} {sz off n:Nat} (h:v=.ref id p sz off n):v=.ref id p sz off n:=h
theorem eS {v:HV} {n:Nat} {cs:List HV} (h:v=.sl n cs):v=.sl n cs:=h
theorem eP {v:HV} {id:Nat} {p:List Nat} {off:Nat} (h:v=.pref id p off):v=.pref id p off:=h
theorem eQ {v:HV} {cs:List HV} {off:Nat} (h:v=.ptr cs off):v=.ptr cs off:=h
theorem eT {v:HV} {cs:List HV} (h:v=.tup cs):v=.tup cs:=h
theorem eA {v:HV} {cs:List HV} (h:v=.agg cs):v=.agg cs:=h
theorem eN {v:HV} (h:v=.nils):v=.nils:=h
theorem eF {v:HV} {f:FuncId} {cs:List HV} (h:v=.fn f cs):v=.fn f cs:=h
theorem eO {v:HV} {sz n:Nat} {cs:List HV} (h:v=.osl sz n cs):v=.osl sz n cs:=h
theorem eW {v:HV} {cs:List HV} (h:v=.optr cs):v=.optr cs:=h
theorem eL {v:HV} (h:v=.nilp):v=.nilp:=h
theorem eX {v:HV} {s:ByteArray} (h:v=.str s):v=.str s:=h
theorem eD {v:HV} (h:v=.dead):v=.dead:=h
theorem ltT {a b:Int} (h:a<b):decide (a<b)=true:=by simpa using h
theorem ltF {a b:Int} (h:¬ a<b):decide (a<b)=false:=by simpa using h
theorem leT {a b:Int} (h:a<=b):decide (a<=b)=true:=by simpa using h
theorem leF {a b:Int} (h:¬ a<=b):decide (a<=b)=false:=by simpa using h
theorem eqT {a b:Int} (h:a=b):(a==b)=true:=by simpa using h
theorem eqF {a b:Int} (h:¬ a=b):(a==b)=false:=by simpa using h
theorem neT {a b:Int} (h:¬ a=b):(a != b)=true:=by simpa using h
theorem neF {a b:Int} (h:a=b):(a != b)=false:=by simpa using h
theorem eP1 {a b:Nat} {v w:HV} {l m:List (Nat×Nat×HV)} (h:v=w) (h2:l=m):(a,b,v)::l=(a,b,w)::m:=by rw [h,h2]
theorem eL1 {v w:HV} {l m:List HV} (h:v=w) (h2:l=m):v::l=w::m:=by rw [h,h2]
variable {x y z:HX} {t:Nat} {u v w:HV} {kk:IntKind} {a b c:Int} {p q e:Bool} {cs cs' ws:List HV} {n m o off id sz:Nat} {path:List Nat}
abbrev G (P:Program) (C:CallSpec) (all r:List HOper) (i:Nat) (k:List HI) (rs:List Nat) (K:HV->Prop) (sl st:List (Nat×HV)) (nx:Nat):Prop:=hx P (.o C all r i::k) (finish rs K) ⟨sl,st,nx⟩
def aeT (nz:Nat) (v:HV):Bool :=
 match nz,v with
 | 0,_=>true
 | _+1,.nils=>false
 | _+1,_=>true
def ac2:HV->Bool
 | .nils=>true
 | .sl ..=>true
 | .ref ..=>true
 | _=>false
theorem AB [ok:Ok C k] {nz:Nat} (hv:ev sl x=v) (hn:aeT nz v=true) (h:G P C all r (i+1) k rs K ((t,v)::sl) st nx):G P C all (⟨some t,.mv nz x,none⟩::r) i k rs K sl st nx :=
 dM ok.mono ok.plain (v:=v) (us:=[]) (side:=True) rfl (by rw [HOp.map,hv]) (by
  cases nz with
  | zero=>cases v<;>rfl
  | succ nz=>cases v<;>first|rfl|cases hn) trivial rfl h
theorem oq [ok:Ok C k] {nz fr:Nat} (hn:(nz != 0)=true) (hv:ev sl x=.nils) (hf:nx+stride*i=fr) (h:G P C all r (i+1) k rs K ((t,.ref fr [] nz 0 0)::sl) ((fr,.osl nz 0 [])::st) nx):G P C all (⟨some t,.mv nz x,none⟩::r) i k rs K sl st nx:=by
 subst hf
 cases nz with
 | zero=>cases hn
 | succ nz=>exact dM ok.mono ok.plain (us:=[.put (nx+stride*i) (.osl (nz+1) 0 [])]) (side:=True) rfl (by rw [HOp.map,hv]) rfl trivial rfl h
theorem kK [ok:Ok C k] (hc:ev sl x=.bool true) (hv:ev sl y=v) (h:G P C all r (i+1) k rs K ((t,v)::sl) st nx):G P C all (⟨some t,.pick x y z,none⟩::r) i k rs K sl st nx :=
 dM ok.mono ok.plain (v:=v) (us:=[]) (side:=True) rfl (by rw [HOp.map,hc,hv]) (by cases v<;>(try rfl)<;>(cases ev sl z<;>rfl)) trivial rfl h
theorem kH [ok:Ok C k] (hc:ev sl x=.bool false) (hv:ev sl z=v) (h:G P C all r (i+1) k rs K ((t,v)::sl) st nx):G P C all (⟨some t,.pick x y z,none⟩::r) i k rs K sl st nx :=
 dM ok.mono ok.plain (v:=v) (us:=[]) (side:=True) rfl (by rw [HOp.map,hc,hv]) (by cases ev sl y<;>(try rfl)<;>(cases v<;>rfl)) trivial rfl h
theorem sQ [ok:Ok C k] (hx:ev sl x=.int kk a) (hy:ev sl y=.int kk b) (hc:kk.wrap (a+b)=c) (h:G P C all r (i+1) k rs K ((t,.int kk c)::sl) st nx):G P C all (⟨some t,.bin .add x y,none⟩::r) i k rs K sl st nx :=
 dM ok.mono ok.plain (v:=.int kk c) (us:=[]) (side:=kk=kk) rfl (by rw [HOp.map,hx,hy]) (by subst hc;rfl) rfl rfl h
theorem xM [ok:Ok C k] (hx:ev sl x=.int kk a) (hy:ev sl y=.int kk b) (hc:kk.wrap (a - b)=c) (h:G P C all r (i+1) k rs K ((t,.int kk c)::sl) st nx):G P C all (⟨some t,.bin .sub x y,none⟩::r) i k rs K sl st nx :=
 dM ok.mono ok.plain (v:=.int kk c) (us:=[]) (side:=kk=kk) rfl (by rw [HOp.map,hx,hy]) (by subst hc;rfl) rfl rfl h
theorem xG [ok:Ok C k] (hx:ev sl x=.int kk a) (hy:ev sl y=.int kk b) (hc:kk.wrap (a*b)=c) (h:G P C all r (i+1) k rs K ((t,.int kk c)::sl) st nx):G P C all (⟨some t,.bin .mul x y,none⟩::r) i k rs K sl st nx :=
 dM ok.mono ok.plain (v:=.int kk c) (us:=[]) (side:=kk=kk) rfl (by rw [HOp.map,hx,hy]) (by subst hc;rfl) rfl rfl h
theorem xO [ok:Ok C k] (hx:ev sl x=.int kk a) (hy:ev sl y=.int kk b) (hc:kk.wrap (BitVec.ofInt kk.bits a &&& BitVec.ofInt kk.bits b).toNat=c) (h:G P C all r (i+1) k rs K ((t,.int kk c)::sl) st nx):G P C all (⟨some t,.bin .and x y,none⟩::r) i k rs K sl st nx :=
 dM ok.mono ok.plain (v:=.int kk c) (us:=[]) (side:=kk=kk) rfl (by rw [HOp.map,hx,hy]) (by subst hc;rfl) rfl rfl h
theorem Fq [ok:Ok C k] (hx:ev sl x=.int kk a) (hy:ev sl y=.int kk b) (hc:kk.wrap (BitVec.ofInt kk.bits a ||| BitVec.ofInt kk.bits b).toNat=c) (h:G P C all r (i+1) k rs K ((t,.int kk c)::sl) st nx):G P C all (⟨some t,.bin .or x y,none⟩::r) i k rs K sl st nx :=
 dM ok.mono ok.plain (v:=.int kk c) (us:=[]) (side:=kk=kk) rfl (by rw [HOp.map,hx,hy]) (by subst hc;rfl) rfl rfl h
theorem yj [ok:Ok C k] (hx:ev sl x=.int kk a) (hy:ev sl y=.int kk b) (hc:kk.wrap (BitVec.ofInt kk.bits a ^^^ BitVec.ofInt kk.bits b).toNat=c) (h:G P C all r (i+1) k rs K ((t,.int kk c)::sl) st nx):G P C all (⟨some t,.bin .xor x y,none⟩::r) i k rs K sl st nx :=
 dM ok.mono ok.plain (v:=.int kk c) (us:=[]) (side:=kk=kk) rfl (by rw [HOp.map,hx,hy]) (by subst hc;rfl) rfl rfl h
theorem yD [ok:Ok C k] (hx:ev sl x=.int kk a) (hy:ev sl y=.int kk b) (hb:b≠0) (hc:kk.wrap (a.tdiv b)=c) (h:G P C all r (i+1) k rs K ((t,.int kk c)::sl) st nx):G P C all (⟨some t,.bin .quo x y,none⟩::r) i k rs K sl st nx :=
 dM ok.mono ok.plain (v:=.int kk c) (us:=[]) (side:=kk=kk/\b≠0) rfl (by rw [HOp.map,hx,hy]) (by subst hc;rfl) ⟨rfl,hb⟩ rfl h
theorem ww [ok:Ok C k] (hx:ev sl x=.int kk a) (hy:ev sl y=.int kk b) (hb:b≠0) (hc:a.tmod b=c) (h:G P C all r (i+1) k rs K ((t,.int kk c)::sl) st nx):G P C all (⟨some t,.bin .rem x y,none⟩::r) i k rs K sl st nx :=
 dM ok.mono ok.plain (v:=.int kk c) (us:=[]) (side:=kk=kk/\b≠0) rfl (by rw [HOp.map,hx,hy]) (by subst hc;rfl) ⟨rfl,hb⟩ rfl h
theorem xQ [ok:Ok C k] {k2:IntKind} (hx:ev sl x=.int kk a) (hy:ev sl y=.int k2 b) (hb:0<=b) (hc:kk.wrap (a*2 ^ (min b.toNat kk.bits))=c) (h:G P C all r (i+1) k rs K ((t,.int kk c)::sl) st nx):G P C all (⟨some t,.bin .shl x y,none⟩::r) i k rs K sl st nx :=
 dM ok.mono ok.plain (v:=.int kk c) (us:=[]) (side:=0<=b) rfl (by rw [HOp.map,hx,hy]) (by subst hc;rfl) hb rfl h
theorem yu [ok:Ok C k] {k2:IntKind} (hx:ev sl x=.int kk a) (hy:ev sl y=.int k2 b) (hb:0<=b) (hc:a.fdiv (2 ^ (min b.toNat kk.bits))=c) (h:G P C all r (i+1) k rs K ((t,.int kk c)::sl) st nx):G P C all (⟨some t,.bin .shr x y,none⟩::r) i k rs K sl st nx :=
 dM ok.mono ok.plain (v:=.int kk c) (us:=[]) (side:=0<=b) rfl (by rw [HOp.map,hx,hy]) (by subst hc;rfl) hb rfl h
theorem uK [ok:Ok C k] (hx:ev sl x=.int kk a) (hy:ev sl y=.int kk b) (hc:(a==b)=p) (h:G P C all r (i+1) k rs K ((t,.bool p)::sl) st nx):G P C all (⟨some t,.bin .eql x y,none⟩::r) i k rs K sl st nx :=
 dM ok.mono ok.plain (v:=.bool p) (us:=[]) (side:=kk=kk) rfl (by rw [HOp.map,hx,hy]) (by subst hc;rfl) rfl rfl h
theorem uX [ok:Ok C k] (hx:ev sl x=.int kk a) (hy:ev sl y=.int kk b) (hc:(a != b)=p) (h:G P C all r (i+1) k rs K ((t,.bool p)::sl) st nx):G P C all (⟨some t,.bin .neq x y,none⟩::r) i k rs K sl st nx :=
 dM ok.mono ok.plain (v:=.bool p) (us:=[]) (side:=kk=kk) rfl (by rw [HOp.map,hx,hy]) (by subst hc;rfl) rfl rfl h
theorem uk [ok:Ok C k] (hx:ev sl x=.int kk a) (hy:ev sl y=.int kk b) (hc:decide (a<b)=p) (h:G P C all r (i+1) k rs K ((t,.bool p)::sl) st nx):G P C all (⟨some t,.bin .lss x y,none⟩::r) i k rs K sl st nx :=
 dM ok.mono ok.plain (v:=.bool p) (us:=[]) (side:=kk=kk) rfl (by rw [HOp.map,hx,hy]) (by subst hc;rfl) rfl rfl h
theorem yB [ok:Ok C k] (hx:ev sl x=.int kk a) (hy:ev sl y=.int kk b) (hc:decide (a<=b)=p) (h:G P C all r (i+1) k rs K ((t,.bool p)::sl) st nx):G P C all (⟨some t,.bin .leq x y,none⟩::r) i k rs K sl st nx :=
 dM ok.mono ok.plain (v:=.bool p) (us:=[]) (side:=kk=kk) rfl (by rw [HOp.map,hx,hy]) (by subst hc;rfl) rfl rfl h
theorem yx [ok:Ok C k] (hx:ev sl x=.int kk a) (hy:ev sl y=.int kk b) (hc:decide (b<a)=p) (h:G P C all r (i+1) k rs K ((t,.bool p)::sl) st nx):G P C all (⟨some t,.bin .gtr x y,none⟩::r) i k rs K sl st nx :=
 dM ok.mono ok.plain (v:=.bool p) (us:=[]) (side:=kk=kk) rfl (by rw [HOp.map,hx,hy]) (by subst hc;rfl) rfl rfl h
theorem xI [ok:Ok C k] (hx:ev sl x=.int kk a) (hy:ev sl y=.int kk b) (hc:decide (b<=a)=p) (h:G P C all r (i+1) k rs K ((t,.bool p)::sl) st nx):G P C all (⟨some t,.bin .geq x y,none⟩::r) i k rs K sl st nx :=
 dM ok.mono ok.plain (v:=.bool p) (us:=[]) (side:=kk=kk) rfl (by rw [HOp.map,hx,hy]) (by subst hc;rfl) rfl rfl h
theorem yc [ok:Ok C k] {ne:Bool} (hx:ev sl x=.bool p) (hy:ev sl y=.bool q) (hc:(if ne=true then !(p==q) else p==q)=e) (h:G P C all r (i+1) k rs K ((t,.bool e)::sl) st nx):G P C all (⟨some t,.beq ne x y,none⟩::r) i k rs K sl st nx :=
 dM ok.mono ok.plain (v:=.bool e) (us:=[]) (side:=True) rfl (by rw [HOp.map,hx,hy]) (by subst hc;rfl) trivial rfl h
theorem x8 [ok:Ok C k] {ne:Bool} (hx:ev sl x=.agg cs) (hy:ev sl y=.agg cs') (hs:cs.length=n/\cs'.length=n/\kP cs=true/\kP cs'=true) (hc:(if ne=true then !(ng cs cs') else ng cs cs')=e) (h:G P C all r (i+1) k rs K ((t,.bool e)::sl) st nx):G P C all (⟨some t,.aeq ne n x y,none⟩::r) i k rs K sl st nx :=
 dM ok.mono ok.plain (v:=.bool e) (us:=[]) (side:=cs.length=n/\cs'.length=n/\kP cs=true/\kP cs'=true) rfl (by rw [HOp.map,hx,hy]) (by subst hc;rfl) hs rfl h
theorem qY [ok:Ok C k] (hx:ev sl x=.bool p) (hc:(!p)=e) (h:G P C all r (i+1) k rs K ((t,.bool e)::sl) st nx):G P C all (⟨some t,.un .not x,none⟩::r) i k rs K sl st nx :=
 dM ok.mono ok.plain (v:=.bool e) (us:=[]) (side:=True) rfl (by rw [HOp.map,hx]) (by subst hc;rfl) trivial rfl h
theorem ou [ok:Ok C k] (hx:ev sl x=.bool true) (h:G P C all r (i+1) k rs K ((t,.bool false)::sl) st nx):G P C all (⟨some t,.un .not x,none⟩::r) i k rs K sl st nx:=qY hx rfl h
theorem ni [ok:Ok C k] (hx:ev sl x=.bool false) (h:G P C all r (i+1) k rs K ((t,.bool true)::sl) st nx):G P C all (⟨some t,.un .not x,none⟩::r) i k rs K sl st nx:=qY hx rfl h
theorem wZ [ok:Ok C k] (hx:ev sl x=.int kk a) (hc:kk.wrap (0 - a)=c) (h:G P C all r (i+1) k rs K ((t,.int kk c)::sl) st nx):G P C all (⟨some t,.un .neg x,none⟩::r) i k rs K sl st nx :=
 dM ok.mono ok.plain (v:=.int kk c) (us:=[]) (side:=True) rfl (by rw [HOp.map,hx]) (by subst hc;rfl) trivial rfl h
theorem qQ [ok:Ok C k] {k2:IntKind} (hx:ev sl x=.int k2 a) (hc:kk.wrap a=c) (h:G P C all r (i+1) k rs K ((t,.int kk c)::sl) st nx):G P C all (⟨some t,.conv kk x,none⟩::r) i k rs K sl st nx :=
 dM ok.mono ok.plain (v:=.int kk c) (us:=[]) (side:=True) rfl (by rw [HOp.map,hx]) (by subst hc;rfl) trivial rfl h
theorem Fj [ok:Ok C k] {mx:Bool} (hx:ev sl x=.int kk a) (hy:ev sl y=.int kk b) (hc:(if mx=true then (if a<b then b else a) else (if b<a then b else a))=c) (h:G P C all r (i+1) k rs K ((t,.int kk c)::sl) st nx):G P C all (⟨some t,.mm mx x y,none⟩::r) i k rs K sl st nx :=
 dM ok.mono ok.plain (v:=.int kk c) (us:=[]) (side:=kk=kk) rfl (by rw [HOp.map,hx,hy]) (by subst hc;rfl) rfl rfl h
theorem qJ [ok:Ok C k] (hx:ev sl x=.nils) (h:G P C all r (i+1) k rs K ((t,.int .i64 0)::sl) st nx):G P C all (⟨some t,.len x,none⟩::r) i k rs K sl st nx :=
 dM ok.mono ok.plain (v:=.int .i64 0) (us:=[]) (side:=True) rfl (by rw [HOp.map,hx]) rfl trivial rfl h
theorem og [ok:Ok C k] (hx:ev sl x=.sl n cs) (h:G P C all r (i+1) k rs K ((t,.int .i64 n)::sl) st nx):G P C all (⟨some t,.len x,none⟩::r) i k rs K sl st nx :=
 dM ok.mono ok.plain (v:=.int .i64 n) (us:=[]) (side:=True) rfl (by rw [HOp.map,hx]) rfl trivial rfl h
theorem nC [ok:Ok C k] (hx:ev sl x=.ref id path sz off n) (h:G P C all r (i+1) k rs K ((t,.int .i64 n)::sl) st nx):G P C all (⟨some t,.len x,none⟩::r) i k rs K sl st nx :=
 dM ok.mono ok.plain (v:=.int .i64 n) (us:=[]) (side:=True) rfl (by rw [HOp.map,hx]) rfl trivial rfl h
theorem uz [ok:Ok C k] (hx:ev sl x=.sl n cs) (hy:ev sl y=.int kk a) (h0:0<=a/\a<n) (ho:a.toNat*sz=o) (h:G P C all r (i+1) k rs K ((t,.ptr cs o)::sl) st nx):G P C all (⟨some t,.iaddr sz x y,none⟩::r) i k rs K sl st nx :=
 dM ok.mono ok.plain (v:=.ptr cs o) (us:=[]) (side:=0<=a/\a<n) rfl (by rw [HOp.map,hx,hy]) (by subst ho;rfl) h0 rfl h
theorem vg [ok:Ok C k] (hx:ev sl x=.ref id path sz off n) (hy:ev sl y=.int kk a) (h0:0<=a/\a<n) (ho:off+a.toNat*sz=o) (h:G P C all r (i+1) k rs K ((t,.pref id path o)::sl) st nx):G P C all (⟨some t,.iaddr sz x y,none⟩::r) i k rs K sl st nx :=
 dM ok.mono ok.plain (v:=.pref id path o) (us:=[]) (side:=0<=a/\a<n/\sz=sz) rfl (by rw [HOp.map,hx,hy]) (by subst ho;rfl) ⟨h0.1,h0.2,rfl⟩ rfl h
theorem xK [ok:Ok C k] {dd:Nat} (hx:ev sl x=.ptr cs off) (ho:off+dd=o) (h:G P C all r (i+1) k rs K ((t,.ptr cs o)::sl) st nx):G P C all (⟨some t,.faddr dd x,none⟩::r) i k rs K sl st nx :=
 dM ok.mono ok.plain (v:=.ptr cs o) (us:=[]) (side:=True) rfl (by rw [HOp.map,hx]) (by subst ho;rfl) trivial rfl h
theorem xW [ok:Ok C k] {dd:Nat} (hx:ev sl x=.pref id path off) (ho:off+dd=o) (h:G P C all r (i+1) k rs K ((t,.pref id path o)::sl) st nx):G P C all (⟨some t,.faddr dd x,none⟩::r) i k rs K sl st nx :=
 dM ok.mono ok.plain (v:=.pref id path o) (us:=[]) (side:=True) rfl (by rw [HOp.map,hx]) (by subst ho;rfl) trivial rfl h
theorem uS [ok:Ok C k] (hx:ev sl x=.ptr cs off) (hl:off<cs.length) (hv:cs.getD off .dead=v) (h:G P C all r (i+1) k rs K ((t,v)::sl) st nx):G P C all (⟨some t,.load false sz x,none⟩::r) i k rs K sl st nx :=
 dM ok.mono ok.plain (v:=v) (us:=[]) (side:=off<cs.length) rfl (by rw [HOp.map,hx]) (by subst hv;rfl) hl rfl h
theorem qR [ok:Ok C k] (hx:ev sl x=.ptr cs off) (hl:off+sz<=cs.length) (hv:win cs off sz=ws) (h:G P C all r (i+1) k rs K ((t,.agg ws)::sl) st nx):G P C all (⟨some t,.load true sz x,none⟩::r) i k rs K sl st nx :=
 dM ok.mono ok.plain (v:=.agg ws) (us:=[]) (side:=off+sz<=cs.length) rfl (by rw [HOp.map,hx]) (by subst hv;rfl) hl rfl h
theorem ug [ok:Ok C k] (hx:ev sl x=.pref id path off) (ht:au id st=u) (hk:aW (ax u path)=cs) (hl:off<cs.length) (hv:cs.getD off .dead=w) (hw:look id path off w=v) (h:G P C all r (i+1) k rs K ((t,v)::sl) st nx):G P C all (⟨some t,.load false sz x,none⟩::r) i k rs K sl st nx :=
 dM ok.mono ok.plain (v:=v) (us:=[]) (side:=off<cs.length) rfl (by rw [HOp.map,hx]) (by
  subst hv hw hk ht
  rfl) hl rfl h
theorem pJ [ok:Ok C k] (hx:ev sl x=.pref id path off) (ht:au id st=u) (hk:aW (ax u path)=cs) (hl:off+sz<=cs.length) (h0:0<sz) (hv:win cs off sz=ws) (hf:bC ws=true) (h:G P C all r (i+1) k rs K ((t,.agg ws)::sl) st nx):G P C all (⟨some t,.load true sz x,none⟩::r) i k rs K sl st nx :=
 dM ok.mono ok.plain (v:=.agg ws) (us:=[]) (side:=off+sz<=cs.length/\0<sz/\bC ws=true) rfl (by rw [HOp.map,hx]) (by
  subst hv hk ht
  simp only [ah,if_true]) ⟨hl,h0,hf⟩ rfl h
theorem BH (L:Lk):∀ {l:List HV},bC l=true->fQ L l=(l,[],(fQ L l).2.2)/\(fQ L l).2.2:=by
 intro l
 induction l generalizing L with
 | nil=>intro _;exact ⟨rfl,trivial⟩
 | cons v r ih =>
  intro h
  simp only [bC,Ep,aZ] at h
  have h1:takeC L v=(v,[],True):=by cases v<;>first|rfl|(exact absurd h.1 (by simp [fH]))
  obtain ⟨h2,h3⟩:=ih (L:=L) h.2
  simp only [fQ,h1,Lk.upd]
  rw [h2]
  exact ⟨rfl,trivial,h3⟩
theorem CE [ok:Ok C k] (hx:ev sl x=.pref id path off) (hy:ev sl y=w) (hw:cellsOf w=ws) (hf:bC ws=true) (hz:ws.length=sz) (h0:0<sz) (ht:au id st=u) (hk:aW (ax u path)=cs) (hl:off+sz<=cs.length)
  (hs:setFrom cs off ws=cs') (hn:dh (bW cs' (ax u path)) u path=v) (h:G P C all r (i+1) k rs K sl ((id,v)::st) nx):G P C all (⟨none,.store true sz x y,none⟩::r) i k rs K sl st nx:=by
 obtain ⟨e1,e2⟩:=BH (fun j=>au j st) hf
 refine dM ok.mono ok.plain (v:=.dead) (us:=[.put id v]) (side:=(fQ (fun j=>au j st) ws).2.2/\ws.length=sz/\0<sz/\off+sz<=cs.length/\(true=true->bC ws=true)) rfl (by rw [HOp.map,hx,hy]) ?_ ⟨e2,hz,h0,hl,fun _=>hf⟩ rfl h
 subst hn hs hk ht hw
 simp only [ah]
 rw [e1]
 simp only [if_true,List.nil_append,Lk.upd]
theorem xN [ok:Ok C k] {n q:Nat} {ws':List HV} {sd:Prop} (hx:ev sl x=.ref id path 1 off n) (hy:ev sl y=w) (hn:dI (fun j=>au j st) true 1 w=(m,ws,[],sd)) (hs:sd) (hq:min m n=q) (hw:ws.take q=ws') (hf:bC ws'=true) (h0:0<q) (ht:au id st=u) (hk:aW (ax u path)=cs) (hl:off+q<=cs.length)
  (hse:setFrom cs off ws'=cs') (hnn:dh (bW cs' (ax u path)) u path=v) (h:G P C all r (i+1) k rs K ((t,.int .i64 (q:Nat))::sl) ((id,v)::st) nx):G P C all (⟨some t,.cpy x y,none⟩::r) i k rs K sl st nx:=by
 subst hnn hse hk ht hw hq
 refine dM ok.mono ok.plain (v:=.int .i64 (min m n:Nat)) (us:=[.put id (dh (bW (setFrom (aW (ax (au id st) path)) off (ws.take (min m n))) (ax (au id st) path)) (au id st) path)]) (side:=sd/\1=1/\0<min m n/\off+min m n<=(aW (ax (au id st) path)).length/\bC (ws.take (min m n))=true) rfl (by rw [HOp.map,hx,hy]) ?_ ⟨hs,rfl,h0,hl,hf⟩ rfl h
 simp only [ah,hn]
theorem xJ [ok:Ok C k] {fr:Nat} (hf:nx+stride*i=fr) (hx:ev sl x=v) (hv:ac2 v=true) (h:G P C all r (i+1) k rs K ((t,.ref fr [] sz 0 0)::sl) ((fr,.osl sz 0 [])::st) nx):G P C all (⟨some t,.slz sz x,none⟩::r) i k rs K sl st nx:=by
 subst hf
 cases v<;>simp only [ac2,Bool.false_eq_true] at hv<;>exact dM ok.mono ok.plain (v:=.ref _ [] sz 0 0) (us:=[.put _ (.osl sz 0 [])]) (side:=True) rfl (by rw [HOp.map,hx]) rfl trivial rfl h
theorem qP [ok:Ok C k] {ne:Bool} (hx:ev sl x=.nils) (h:G P C all r (i+1) k rs K ((t,.bool (!ne))::sl) st nx):G P C all (⟨some t,.isn ne x,none⟩::r) i k rs K sl st nx :=
 dM ok.mono ok.plain (v:=.bool (!ne)) (us:=[]) (side:=True) rfl (by rw [HOp.map,hx]) rfl trivial rfl h
theorem qU [ok:Ok C k] {ne:Bool} (hx:ev sl x=.sl n cs) (hn:0<n) (h:G P C all r (i+1) k rs K ((t,.bool ne)::sl) st nx):G P C all (⟨some t,.isn ne x,none⟩::r) i k rs K sl st nx :=
 dM ok.mono ok.plain (v:=.bool ne) (us:=[]) (side:=0<n) rfl (by rw [HOp.map,hx]) rfl hn rfl h
theorem qL [ok:Ok C k] {ne:Bool} (hx:ev sl x=.ref id path sz off n) (hn:0<n) (h:G P C all r (i+1) k rs K ((t,.bool ne)::sl) st nx):G P C all (⟨some t,.isn ne x,none⟩::r) i k rs K sl st nx :=
 dM ok.mono ok.plain (v:=.bool ne) (us:=[]) (side:=0<n) rfl (by rw [HOp.map,hx]) rfl hn rfl h
theorem yz [ok:Ok C k] (hx:ev sl x=.agg cs) (hl:off<cs.length) (hv:cs.getD off .dead=v) (h:G P C all r (i+1) k rs K ((t,v)::sl) st nx):G P C all (⟨some t,.fld false sz off x,none⟩::r) i k rs K sl st nx :=
 dM ok.mono ok.plain (v:=v) (us:=[]) (side:=off<cs.length) rfl (by rw [HOp.map,hx]) (by subst hv;rfl) hl rfl h
theorem qW [ok:Ok C k] (hx:ev sl x=.agg cs) (hl:off+sz<=cs.length) (hv:win cs off sz=ws) (h:G P C all r (i+1) k rs K ((t,.agg ws)::sl) st nx):G P C all (⟨some t,.fld true sz off x,none⟩::r) i k rs K sl st nx :=
 dM ok.mono ok.plain (v:=.agg ws) (us:=[]) (side:=off+sz<=cs.length) rfl (by rw [HOp.map,hx]) (by subst hv;rfl) hl rfl h
theorem sK [ok:Ok C k] (hx:ev sl x=.tup cs) (hl:n<cs.length) (hv:cs.getD n .dead=v) (h:G P C all r (i+1) k rs K ((t,v)::sl) st nx):G P C all (⟨some t,.ext x n,none⟩::r) i k rs K sl st nx :=
 dM ok.mono ok.plain (v:=v) (us:=[]) (side:=n<cs.length) rfl (by rw [HOp.map,hx]) (by subst hv;rfl) hl rfl h
theorem qV [ok:Ok C k] {lo hi:Option HX} (hx:ev sl x=.sl n cs) (hlo:(lo.map (ev sl)).getD (.int .i64 0)=.int .i64 a) (hhi:(hi.map (ev sl)).getD (.int .i64 n)=.int .i64 b) (hside:0<=a/\a<=b/\b<=n) (hm:(b - a).toNat=m) (ho:a.toNat*sz=o) (hw:win cs o (m*sz)=ws)
  (h:G P C all r (i+1) k rs K ((t,.sl m ws)::sl) st nx):G P C all (⟨some t,.slc sz x lo hi,none⟩::r) i k rs K sl st nx :=
 dM ok.mono ok.plain (v:=.sl m ws) (us:=[]) (side:=0<=a/\a<=b/\b<=n) rfl (by rw [HOp.map,hx]) (by subst hw hm ho;simp only [ah,hlo,hhi]) hside rfl h
theorem abr [ok:Ok C k] {lo hi:Option HX} (hx:ev sl x=.ref id path sz off n) (hlo:(lo.map (ev sl)).getD (.int .i64 0)=.int .i64 a) (hhi:(hi.map (ev sl)).getD (.int .i64 n)=.int .i64 b) (hside:0<=a/\a<=b/\b<=n) (hm:(b - a).toNat=m) (ho:off+a.toNat*sz=o)
  (h:G P C all r (i+1) k rs K ((t,.ref id path sz o m)::sl) st nx):G P C all (⟨some t,.slc sz x lo hi,none⟩::r) i k rs K sl st nx :=
 dM ok.mono ok.plain (v:=.ref id path sz o m) (us:=[]) (side:=0<=a/\a<=b/\b<=n/\sz=sz) rfl (by rw [HOp.map,hx]) (by subst hm ho;simp only [ah,hlo,hhi]) ⟨hside.1,hside.2.1,hside.2.2,rfl⟩ rfl h
theorem iY [ok:Ok C k] {lo hi:Option HX} (h:G P C all r (i+1) k rs K ((t,.ref id path sz o m)::sl) st nx) (hx:ev sl x=.ref id path sz off n:=by rfl) (hlo:(lo.map (ev sl)).getD (.int .i64 0)=.int .i64 a:=by rfl) (hhi:(hi.map (ev sl)).getD (.int .i64 n)=.int .i64 b:=by rfl) (hside:0<=a/\a<=b/\b<=n:=by omega) (hm:(b - a).toNat=m:=by (try simp only [go_sem]);try rfl) (ho:off+a.toNat*sz=o:=by (try simp only [go_sem,reduceIte,Nat.reduceEqDiff,Nat.reduceAdd,Nat.reduceMul]);try rfl):G P C all (⟨some t,.slc sz x lo hi,none⟩::r) i k rs K sl st nx:=abr hx hlo hhi hside hm ho h
theorem acs [ok:Ok C k] {xs:List HX} {vs:List HV} {fr:Nat} (hf:nx+stride*i=fr) (hvs:xs.map (ev sl)=vs) (hcs:vs.flatMap cellsOf=cs) (hfl:bC cs=true) (hn:n=vs.length) (hz:(vs.all fun v=>(cellsOf v).length==sz)=true)
  (h:G P C all r (i+1) k rs K ((t,.ref fr [] sz 0 n)::sl) ((fr,.osl sz n cs)::st) nx):G P C all (⟨some t,.bsl sz n xs,none⟩::r) i k rs K sl st nx:=by
 obtain ⟨e1,e2⟩:=BH (fun j=>au j st) hfl
 subst hf
 refine dM ok.mono ok.plain (us:=[.put (nx+stride*i) (.osl sz n cs)]) (side:=(fQ (fun j=>au j st) cs).2.2/\n=vs.length/\(vs.all fun v=>(cellsOf v).length==sz)=true) rfl (by rw [HOp.map,hvs]) ?_ ⟨e2,hn,hz⟩ rfl h
 subst hcs
 simp only [ah]
 rw [e1]
 rfl
theorem jD [ok:Ok C k] {xs:List HX} {vs:List HV} {fr:Nat} (h:G P C all r (i+1) k rs K ((t,.ref fr [] sz 0 n)::sl) ((fr,.osl sz n cs)::st) nx) (hf:nx+stride*i=fr:=by (try simp only [go_sem,reduceIte,Nat.reduceEqDiff,Nat.reduceAdd,Nat.reduceMul]);try rfl) (hvs:xs.map (ev sl)=vs:=by (try simp only [dP,uG]);repeat (first|(apply eL1;· exact af)|rfl)) (hcs:vs.flatMap cellsOf=cs:=by (try simp only [go_sem]);try rfl) (hfl:bC cs=true:=by first|rfl|exact HL.ints_flat _|exact HL.bools_flat _) (hn:n=vs.length:=by rfl) (hz:(vs.all fun v=>(cellsOf v).length==sz)=true:=by rfl):G P C all (⟨some t,.bsl sz n xs,none⟩::r) i k rs K sl st nx:=acs hf hvs hcs hfl hn hz h
theorem Bd (a b:List Upd):∀ (sl st:List (Nat×HV)),tV sl st (a++b)=tV (tV sl st a).1 (tV sl st a).2 b:=by
 induction a with
 | nil=>intro sl st;rfl
 | cons u a ih=>intro sl st;cases u<;>exact ih _ _
theorem wU [ok:Ok C k] {fl:Bool} {ws0:List HV} {us:List Upd} {sd:Prop} (hx:ev sl x=.pref id path off) (hy:ev sl y=w) (hw:cellsOf w=ws0) (ht:fQ (fun j=>au j st) ws0=(ws,us,sd)) (hs:sd) (hz:ws.length=sz) (h0:0<sz) (hf:fl=false) (hu0:Lk.upd (fun j=>au j st) us id=u) (hk:aW (ax u path)=cs) (hl:off+sz<=cs.length)
  (hse:setFrom cs off ws=cs') (hn:dh (bW cs' (ax u path)) u path=v) (hu:tV sl st (us++[.kill id path.length]++[.put id v])=(sl',st')) (h:G P C all r (i+1) k rs K sl' st' nx):G P C all (⟨none,.store fl sz x y,none⟩::r) i k rs K sl st nx:=by
 subst hf hn hse hk hu0 hw
 refine dM ok.mono ok.plain (v:=.dead) (us:=us++[.kill id path.length]++[.put id (dh (bW (setFrom (aW (ax (Lk.upd (fun j=>au j st) us id) path)) off ws) (ax (Lk.upd (fun j=>au j st) us id) path)) (Lk.upd (fun j=>au j st) us id) path)]) (side:=sd/\ws.length=sz/\0<sz/\off+sz<=(aW (ax (Lk.upd (fun j=>au j st) us id) path)).length/\(false=true->bC ws=true)) rfl (by rw [HOp.map,hx,hy]) ?_ ⟨hs,hz,h0,hl,fun h=>by cases h⟩ (by rw [hu];rfl) h
 simp only [ah,ht,if_false,Bool.false_eq_true]
theorem qX [ok:Ok C k] {xs:List HX} {vs cs0:List HV} {us:List Upd} {sd:Prop} {fr:Nat} (hf:nx+stride*i=fr) (hvs:xs.map (ev sl)=vs) (hcs:vs.flatMap cellsOf=cs0) (ht:fQ (fun j=>au j st) cs0=(cs,us,sd)) (hs:sd) (hn:n=vs.length) (hz:(vs.all fun v=>(cellsOf v).length==sz)=true) (hu:tV sl st us=(sl',st'))
  (h:G P C all r (i+1) k rs K ((t,.ref fr [] sz 0 n)::sl') ((fr,.osl sz n cs)::st') nx):G P C all (⟨some t,.bsl sz n xs,none⟩::r) i k rs K sl st nx:=by
 subst hf
 refine dM ok.mono ok.plain (v:=.ref (nx+stride*i) [] sz 0 n) (us:=us++[.put (nx+stride*i) (.osl sz n cs)]) (side:=sd/\n=vs.length/\(vs.all fun v=>(cellsOf v).length==sz)=true) rfl (by rw [HOp.map,hvs]) ?_ ⟨hs,hn,hz⟩ (by rw [Bd,hu];rfl) h
 subst hcs
 simp only [ah]
 rw [ht]
theorem mP [ok:Ok C k] {fr bytes sz2 n2 q:Nat} {fl:Bool} {sd:Prop} {us:List Upd} {u':HV} (hf:nx+stride*i=fr) (hx:ev sl x=.ref id path sz off n) (hy:ev sl y=w) (hn:dI (fun j=>au j st) fl sz w=(m,ws,us,sd)) (hs:sd) (ht:Lk.upd (fun j=>au j st) us id=u) (hg:ax u path=.osl sz2 n2 cs) (hq:n+m=q)
  (hb:q*bytes<=140737488355328) (hm:q<=maxLen) (hl:off+n*sz<=cs.length) (hc:win cs off (n*sz)++ws=cs') (hd:dh .dead u path=u') (hu:tV sl st us=(sl',st'))
  (h:G P C all r (i+1) k rs K ((t,.ref fr [] sz 0 q)::sl') ((fr,.osl sz q cs')::(id,u')::st') nx):G P C all (⟨some t,.app fl sz bytes x y,none⟩::r) i k rs K sl st nx:=by
 subst hf hd hc ht hq
 refine dM ok.mono ok.plain (v:=.ref (nx+stride*i) [] sz 0 (n+m)) (us:=us++[.put id (dh .dead (Lk.upd (fun j=>au j st) us id) path),.put (nx+stride*i) (.osl sz (n+m) (win cs off (n*sz)++ws))]) (side:=sd/\(n+m)*bytes<=140737488355328/\n+m<=maxLen/\sz=sz/\off+n*sz<=cs.length) rfl (by rw [HOp.map,hx,hy]) ?_ ⟨hs,hb,hm,rfl,hl⟩ (by rw [Bd,hu];rfl) h
 simp only [ah,hn,hg]
theorem oz [ok:Ok C k] {fr:Nat} (hf:nx+stride*i=fr) (hv:ev sl x=v) (hcs:cellsOf v=cs) (hfl:bC cs=true) (hz:cs.length=sz) (h:G P C all r (i+1) k rs K ((t,.pref fr [] 0)::sl) ((fr,.optr cs)::st) nx):G P C all (⟨some t,.newv sz x,none⟩::r) i k rs K sl st nx:=by
 obtain ⟨e1,e2⟩:=BH (fun j=>au j st) hfl
 subst hf
 refine dM ok.mono ok.plain (us:=[.put (nx+stride*i) (.optr cs)]) (side:=(fQ (fun j=>au j st) cs).2.2/\cs.length=sz) rfl (by rw [HOp.map,hv]) ?_ ⟨e2,hz⟩ rfl h
 subst hcs
 simp only [ah]
 rw [e1]
 rfl
theorem qN [ok:Ok C k] {fr:Nat} (hf:nx+stride*i=fr) (h:G P C all r (i+1) k rs K ((t,.pref fr [] 0)::sl) ((fr,.optr cs)::st) nx):G P C all (⟨some t,.newz cs,none⟩::r) i k rs K sl st nx:=by
 subst hf
 exact dM ok.mono ok.plain (us:=[.put (nx+stride*i) (.optr cs)]) (side:=True) rfl rfl rfl trivial rfl h
theorem xH [ok:Ok C k] {zs:List HV} {ps:List (Nat×Nat×HX)} {qs:List (Nat×Nat×HV)} {side:Prop} (hq:(ps.map fun p=>(p.1,p.2.1,ev sl p.2.2))=qs) (hw:qI zs qs=(ws,side)) (hs:side) (h:G P C all r (i+1) k rs K ((t,.agg ws)::sl) st nx):G P C all (⟨some t,.bld zs ps,none⟩::r) i k rs K sl st nx :=
 dM ok.mono ok.plain (v:=.agg ws) (us:=[]) (side:=side) rfl rfl (by simp only [ah,HOp.map];rw [hq,hw]) hs rfl h
theorem qM [ok:Ok C k] {fr bytes:Nat} {zs:List HV} (hf:nx+stride*i=fr) (hx:ev sl x=.int .i64 a) (hs:0<=a/\bytes*a<=281474976710656/\a<=9223372036854775807) (hm:a.toNat=m) (hcs:(List.replicate m zs).flatten=cs)
  (h:G P C all r (i+1) k rs K ((t,.ref fr [] sz 0 m)::sl) ((fr,.osl sz m cs)::st) nx):G P C all (⟨some t,.mksl sz bytes zs x,none⟩::r) i k rs K sl st nx:=by
 subst hf hcs hm
 exact dM ok.mono ok.plain (us:=[.put (nx+stride*i) (.osl sz a.toNat (List.replicate a.toNat zs).flatten)]) (side:=0<=a/\bytes*a<=281474976710656/\a<=9223372036854775807) rfl (by rw [HOp.map,hx]) rfl hs rfl h
theorem qK [ok:Ok C k] {fr bytes:Nat} {fl:Bool} {sd:Prop} (hf:nx+stride*i=fr) (hx:ev sl x=.nils) (hy:ev sl y=w) (hn:dI (fun j=>au j st) fl sz w=(m,ws,[],sd)) (hs:sd) (hb:m*bytes<=140737488355328) (hm:m<=maxLen)
  (h:G P C all r (i+1) k rs K ((t,.ref fr [] sz 0 m)::sl) ((fr,.osl sz m ws)::st) nx):G P C all (⟨some t,.app fl sz bytes x y,none⟩::r) i k rs K sl st nx:=by
 subst hf
 refine dM ok.mono ok.plain (us:=[.put (nx+stride*i) (.osl sz m ws)]) (side:=sd/\m*bytes<=140737488355328/\m<=maxLen) rfl (by rw [HOp.map,hx,hy]) ?_ ⟨hs,hb,hm⟩ rfl h
 simp only [ah,hn]
 rfl
theorem pI [ok:Ok C k] {fr bytes sz2 n2 q:Nat} {fl:Bool} {sd:Prop} {u':HV} (hf:nx+stride*i=fr) (hx:ev sl x=.ref id path sz off n) (hy:ev sl y=w) (hn:dI (fun j=>au j st) fl sz w=(m,ws,[],sd)) (hs:sd) (ht:au id st=u) (hg:ax u path=.osl sz2 n2 cs) (hq:n+m=q)
  (hb:q*bytes<=140737488355328) (hm:q<=maxLen) (hl:off+n*sz<=cs.length) (hc:win cs off (n*sz)++ws=cs') (hd:dh .dead u path=u')
  (h:G P C all r (i+1) k rs K ((t,.ref fr [] sz 0 q)::sl) ((fr,.osl sz q cs')::(id,u')::st) nx):G P C all (⟨some t,.app fl sz bytes x y,none⟩::r) i k rs K sl st nx:=by
 subst hf hd hc ht hq
 refine dM ok.mono ok.plain (us:=[.put id (dh .dead (au id st) path),.put (nx+stride*i) (.osl sz (n+m) (win cs off (n*sz)++ws))]) (side:=sd/\(n+m)*bytes<=140737488355328/\n+m<=maxLen/\sz=sz/\off+n*sz<=cs.length) rfl (by rw [HOp.map,hx,hy]) ?_ ⟨hs,hb,hm,rfl,hl⟩ rfl h
 simp only [ah,hn,Lk.upd,hg,List.nil_append]
theorem tY [ok:Ok C k] {f:FuncId} {xs:List HX} {vs:List HV} (hvs:xs.map (ev sl)=vs) (h:G P C all r (i+1) k rs K ((t,.fn f vs)::sl) st nx):G P C all (⟨some t,.mkfn f xs,none⟩::r) i k rs K sl st nx :=
 dM ok.mono ok.plain (v:=.fn f vs) (us:=[]) (side:=True) rfl (by rw [HOp.map,hvs]) rfl trivial rfl h
def aaK:HV->Bool
 | .ptr ..=>true
 | .pref ..=>true
 | .fn ..=>true
 | _=>false
theorem mY [ok:Ok C k] (hx:ev sl x=v) (hv:aaK v=true) (h:G P C all r (i+1) k rs K ((t,v)::sl) st nx):G P C all (⟨some t,.nilck x,none⟩::r) i k rs K sl st nx :=
 dM ok.mono ok.plain (v:=v) (us:=[]) (side:=True) rfl (by rw [HOp.map,hx]) (by cases v<;>first|rfl|cases hv) trivial rfl h
theorem jP [ok:Ok C k] (hx:ev sl x=v) (hv:aaK v=true) (h:G P C all r (i+1) k rs K sl st nx):G P C all (⟨none,.nilck x,none⟩::r) i k rs K sl st nx :=
 dM ok.mono ok.plain (v:=v) (us:=[]) (side:=True) rfl (by rw [HOp.map,hx]) (by cases v<;>first|rfl|cases hv) trivial rfl h
theorem uC {op:HOp HX} {j e:Nat} {want:Bool} (hd:(all[j]?).bind (·.dst)=some e) (hb:au e sl=.bool want) (h:G P C all (⟨d,op,none⟩::r) i k rs K sl st nx):G P C all (⟨d,op,some (j,want)⟩::r) i k rs K sl st nx:=acM hd hb h
theorem Di [ok:Ok C k] {op:HOp HX} {j e:Nat} {want:Bool} (hd:(all[j]?).bind (·.dst)=some e) (hb:au e sl=.bool (!want)) (h:G P C all r (i+1) k rs K ((t,.tup [])::sl) st nx):G P C all (⟨some t,op,some (j,want)⟩::r) i k rs K sl st nx:=by
 refine aaN hd hb ?_
 exact lS ok.mono ok.plain (s:=⟨(t,.tup [])::sl,st,nx⟩) (mW (us:=[]) (d:=some t) (v:=(.tup [])) rfl) h
theorem ve {op:HOp HX} {j e:Nat} {want:Bool} (hd:(all[j]?).bind (·.dst)=some e) (hb:au e sl=.bool (!want)) (h:G P C all r (i+1) k rs K sl st nx):G P C all (⟨none,op,some (j,want)⟩::r) i k rs K sl st nx:=aaN hd hb h
theorem uT [ok:Ok C k] {op:HOp HX} {j e:Nat} {want:Bool} (hd:(all[j]?).bind (·.dst)=some e) (hb:au e sl=.tup []) (h:G P C all r (i+1) k rs K ((t,.tup [])::sl) st nx):G P C all (⟨some t,op,some (j,want)⟩::r) i k rs K sl st nx:=by
 refine Tf rfl hd hb ?_
 exact lS ok.mono ok.plain (s:=⟨(t,.tup [])::sl,st,nx⟩) (mW (us:=[]) (d:=some t) (v:=.tup []) rfl) h
theorem rD {nx':Nat} (hn:nx+stride*all.length=nx') (h:hx P k (finish rs K) ⟨sl,st,nx'⟩):G P C all [] i k rs K sl st nx:=by
 subst hn
 show hx P (.o C all [] i::k) (finish rs K) ⟨sl,st,nx⟩
 rw [WA];exact h
theorem aX [ok:Ok (HS P) k] {f:FuncId} {xs:List HX} {vs args:List HV} {K':HV->Prop} (hvs:xs.map (ev sl)=vs) (ha:cZ bM (fun j=>au j st) vs=args) (hC:HT P f args K')
  (h:∀v,K' v->(aO vs || v.noRd)=true/\∃v' us n2 sl' st',unpack (nx+stride*i) v=(v',us,n2)/\n2<=nx+stride*(i+1)/\Ae d v' (tV sl st us)=(sl',st')/\G P (HS P) all r (i+1) k rs K sl' st' nx) :
  G P (HS P) all (⟨d,.call f xs,none⟩::r) i k rs K sl st nx:=by
 subst hvs
 refine YJ (ha▸hC) ?_
 intro v hv
 obtain ⟨h1,v',us,n2,sl',st',h2,h3,h4,h5⟩:=h v hv
 rw [h2]
 exact ⟨h1,h3,lS ok.mono ok.plain (mW h4) h5⟩
theorem fG {D:FuncId->List HV->HV->Prop} [ok:Ok (CS P D) k] {f:FuncId} {xs:List HX} {vs args:List HV} (hvs:xs.map (ev sl)=vs) (ha:cZ bM (fun j=>au j st) vs=args) (hC:HT P f args (D f args)) (hex:∃r,D f args r/\r.deep=[])
  (h:∀v,D f args v->v.deep=[]->(aO vs || v.noRd)=true/\∃v' us n2 sl' st',unpack (nx+stride*i) v=(v',us,n2)/\n2<=nx+stride*(i+1)/\Ae d v' (tV sl st us)=(sl',st')/\G P (CS P D) all r (i+1) k rs K sl' st' nx) :
  G P (CS P D) all (⟨d,.call f xs,none⟩::r) i k rs K sl st nx:=by
 subst hvs ha
 refine Ve hC hex ?_
 intro v hv hd
 obtain ⟨h1,v',us,n2,sl',st',h2,h3,h4,h5⟩:=h v hv hd
 rw [h2]
 exact ⟨h1,h3,lS ok.mono ok.plain (mW h4) h5⟩
theorem uH [ok:Ok (HS P) k] {f:FuncId} {xs:List HX} {cap vs args:List HV} {K':HV->Prop} (hx:ev sl x=.fn f cap) (hvs:xs.map (ev sl)=vs) (ha:cZ bM (fun j=>au j st) (vs++cap)=args) (hC:HT P f args K')
  (h:∀v,K' v->(aO (vs++cap) || v.noRd)=true/\∃v' us n2 sl' st',unpack (nx+stride*i) v=(v',us,n2)/\n2<=nx+stride*(i+1)/\Ae d v' (tV sl st us)=(sl',st')/\G P (HS P) all r (i+1) k rs K sl' st' nx) :
  G P (HS P) all (⟨d,.callv x xs,none⟩::r) i k rs K sl st nx:=by
 subst hvs
 refine Xw hx (ha▸hC) ?_
 intro v hv
 obtain ⟨h1,v',us,n2,sl',st',h2,h3,h4,h5⟩:=h v hv
 rw [h2]
 exact ⟨h1,h3,lS ok.mono ok.plain (mW h4) h5⟩
end
section
variable {P:Program} {k:List HI} {Q:HE->St->Prop} {s:St}
def LI {α:Type} (Inv:α->Prop) (S:α->St) (s:St):Prop:=∃a,Inv a/\s=S a
open Classical in
noncomputable def Lμ {α:Type} (Inv:α->Prop) (S:α->St) (m:α->Nat) (s:St):Nat:=if h:∃n,∃a,Inv a/\s=S a/\m a=n then Classical.choose (BK h) else 0
theorem LZ {α:Type} {Inv:α->Prop} {S:α->St} {m:α->Nat} {s:St} (h:LI Inv S s):(∃a,Inv a/\s=S a/\m a=Lμ Inv S m s)/\∀a,Inv a->s=S a->Lμ Inv S m s<=m a:=by
 have hex:∃n,∃a,Inv a/\s=S a/\m a=n:=by obtain ⟨a,h1,h2⟩:=h;exact ⟨m a,a,h1,h2,rfl⟩
 have e:Lμ Inv S m s=Classical.choose (BK hex):=by unfold Lμ;rw [dif_pos hex]
 rw [e]
 have hs:=Classical.choose_spec (BK hex)
 exact ⟨hs.1,fun a h1 h2=>hs.2 _ ⟨a,h1,h2,rfl⟩⟩
theorem aF {α:Type} {b:HCode} (keep:List Nat) (Inv:α->Prop) (S:α->St) (m:α->Nat) (a0:α) (h0:Inv a0) (hn:norm2 keep s=S a0) (hr:∀a,Inv a->hx P (.c b::.l (LI Inv S) (Lμ Inv S m) (m a)::k) Q (S a)):hx P (.c (.loop b)::k) Q s:=by
 refine Yw (LI Inv S) (Lμ Inv S m) (S a0) (hn▸Weak.norm2 keep s) ⟨a0,h0,rfl⟩ ?_
 intro s1 h1
 obtain ⟨⟨a,h2,h3,h4⟩,_⟩:=LZ (m:=m) h1
 rw [<- h4]
 subst h3
 exact hr a h2
theorem aV {α:Type} {n:Nat} (keep:List Nat) {Inv:α->Prop} {S:α->St} {m:α->Nat} (a:α) (h1:Inv a) (h2:m a<n) (hn:norm2 keep s=S a):hx P (.l (LI Inv S) (Lμ Inv S m) n::k) Q s:=by
 refine ae9 (S a) (hn▸Weak.norm2 keep s) ⟨a,h1,rfl⟩ ?_
 exact Nat.lt_of_le_of_lt ((LZ (m:=m) ⟨a,h1,rfl⟩).2 a h1 rfl) h2
theorem aP {x:HCode} (id:Nat) (keep:List Nat) (s0:St) (hn:norm2 keep (freeze id s)=s0) (h:hx P (.c x::k) Q s0):hx P (.c x::k) Q s:=qj ((Weak.freeze id s).trans (hn▸Weak.norm2 keep (freeze id s))) h
theorem bV {x:HCode} (keep:List Nat) (s0:St) (hn:norm2 keep s=s0) (h:hx P (.c x::k) Q s0):hx P (.c x::k) Q s:=qj (hn▸Weak.norm2 keep s) h
theorem KX {rs:List Nat} {K:HV->Prop} {sl st:List (Nat×HV)} {nx:Nat} {vs0 vs:List HV} {us:List Upd} {side:Prop} (hvs:(rs.map fun r=>au r sl)=vs0) (h0:aB (fun j=>au j st) vs0=(vs,us,side)) (hs:side) (hK:K (bG vs)) :
  hx P (.c .ret::k) (finish rs K) ⟨sl,st,nx⟩:=YG (by rw [hvs];exact h0) hs hK
theorem ae {rs:List Nat} {K:HV->Prop} {sl st:List (Nat×HV)} {nx:Nat} {vs0 vs:List HV} {us:List Upd} {side:Prop} (hK:K (bG vs)) (hvs:(rs.map fun r=>au r sl)=vs0:=by (try simp only [dP,uG]);repeat (first|(apply eL1;· exact af)|rfl)) (h0:aB (fun j=>au j st) vs0=(vs,us,side):=by simp only [aB,takeD,takeC,au,Lk.upd,if_true,if_false,reduceIte,Nat.reduceEqDiff,List.append_nil,List.nil_append];try rfl) (hs:side:=by first|trivial|(refine ⟨?_,?_⟩<;>trivial)|(simp only [and_true,true_and];done)):hx P (.c .ret::k) (finish rs K) ⟨sl,st,nx⟩:=KX hvs h0 hs hK
end
theorem Zz {P:Program} {rs:List Nat} {K:HV->Prop} {sl st:List (Nat×HV)} {nx:Nat} {vs0 vs:List HV} {us:List Upd} {side:Prop} (hvs:(rs.map fun r=>au r sl)=vs0) (h0:aB (fun j=>au j st) vs0=(vs,us,side)) (hs:side) (hK:K (bG vs)) :
  hx P [] (finish rs K) ⟨sl,st,nx⟩:=by
 unfold hx hk finish
 simp only
 have hM:St.M ⟨sl,st,nx⟩=fun j=>au j st:=rfl
 rw [hM,hvs,h0]
 exact ⟨hs,hK⟩
theorem Gq {P:Program} {k:List HI} {Q:HE->St->Prop} {x:HCode} {sl st:List (Nat×HV)} {nx:Nat} (t:Nat) (keep:List Nat) {id sz m n:Nat} {ds:List HV} (s0:St) (h1:au t sl=.ref id [] sz 0 m) (h2:au id st=.osl sz n ds) (h4:m<=n) (h5:bC ds=true) (h6:0<sz)
  (hn:norm2 keep ⟨(t,.ref nx [] sz 0 m)::sl,(nx,.osl sz m (ds.take (m*sz)))::(id,.dead)::st,nx+1⟩=s0) (h:hx P (.c x::k) Q s0):hx P (.c x::k) Q ⟨sl,st,nx⟩:=by
 have e:shrink t ⟨sl,st,nx⟩=⟨(t,.ref nx [] sz 0 m)::sl,(nx,.osl sz m (ds.take (m*sz)))::(id,.dead)::st,nx+1⟩:=by
  have a1:St.S ⟨sl,st,nx⟩ t=.ref id [] sz 0 m:=h1
  have a2:St.M ⟨sl,st,nx⟩ id=.osl sz n ds:=h2
  unfold shrink
  rw [a1]
  simp only
  rw [a2]
  simp only
  rw [if_pos ⟨trivial,h4,h5,h6⟩]
 exact qj ((Weak.shrink t ⟨sl,st,nx⟩).trans (by rw [e];exact hn▸Weak.norm2 keep _)) h
section
variable {P:Program} {E:Fr} {N fr:Nat} {sl st:Lk} {loc:Nat->Value} {fp:Nat->List Nat} {a:Act} {w:World}
theorem SRel.same {s s':St} (h:SRel E N s a w) (h1:s.S=s'.S) (h2:s.M=s'.M):SRel E N s' a w:=by
 obtain ⟨loc,fp,h⟩:=h
 exact ⟨loc,fp,h1▸h2▸h⟩
end
section
variable {P:Program} {all r:List HOper} {i:Nat} {k:List HI} {rs:List Nat} {K:HV->Prop} {sl sl1 sl' st:List (Nat×HV)} {nx:Nat} {x y:HX} {t id sz bytes n m fr q:Nat} {cs ws cs':List HV} {v:HV} {sd:Prop}
theorem Ut {P:Program} {s:St} {i:Nat} {d:Option Nat} {op:HOp HX} {f:FuncId} {vs ts:List HV} {us:List Upd} {sd:Prop} {io ids:List Nat} {K':HV->List HV->Prop} {K:St->Prop} (hc:vU s op=some (f,vs)) (ht:aB s.M vs=(ts,us,sd)) (hs:sd) (hio:(io.map (fun j=>vs[j]?)=ids.map fun id=>some (HV.pref id [] 0))) (hids:ids.Nodup) (hC:HTI P f ts io K')
  (h:∀v outs,K' v outs->outs.length=ids.length->(unpack (s.nx+stride*i) v).2.2<=s.nx+stride*(i+1)/\K ((s.upd (us++kills ids++nJ ids outs++(unpack (s.nx+stride*i) v).2.1)).put d (unpack (s.nx+stride*i) v).1)):yf P s i d op K:=by
 intro E ro a w next Q hd ho hr hn
 have h0:(s.M:Lk)=St.M { s with nx:=s.nx+stride*i }:=rfl
 have e1:ro.wp P a w next Q=({ ro with guard:=none }:Oper).wp P a w next Q:=rfl
 rw [e1]
 refine zo (s:={ s with nx:=s.nx+stride*i }) (K:=fun s1=>s1.nx<=s.nx+stride*(i+1)/\K { s1 with nx:=s.nx }) hr ?_ ?_
 ·have ht':(aJ P E.ok { ro with guard:=none }).op=op:=by rw [<- ho];rfl
  have hd':(aJ P E.ok { ro with guard:=none }).dst=d:=hd
  refine ⟨rfl,f,vs,io,ids,by rw [ht'];exact hc,by rw [<- h0,ht];exact hs,hio,hids,?_⟩
  rw [<- h0,ht,hd']
  refine hC.mono fun v outs hv hl=>?_
  obtain ⟨h1,h2⟩:=h v outs hv hl
  refine ⟨h1,?_⟩
  have e2:∀ (us:List Upd) (d:Option Nat) (v:HV) (n:Nat),({ ((St.upd { s with nx:=s.nx+stride*i } us).put d v) with nx:=n }:St)={ ((s.upd us).put d v) with nx:=n }:=by
   intro us d v n
   have:∀ (us:List Upd) (s:St) (m:Nat),St.upd { s with nx:=m } us={ s.upd us with nx:=m }:=by
    intro us
    induction us with
    | nil=>intro s m;rfl
    | cons u us ih =>
     intro s m
     cases u with
     | put id t=>exact ih { s with st:=Ii id t s.st } m
     | kill id len=>exact ih { s with sl:=s.sl.map fun p=>(p.1,p.2.kill id len) } m
   rw [this]
   cases d<;>rfl
  have e3:∀ (us:List Upd) (d:Option Nat) (v:HV),({ ((s.upd us).put d v) with nx:=s.nx }:St)=(s.upd us).put d v:=by
   intro us d v
   have h4:=St.put_nx (s.upd us) d v
   rw [St.upd_nx] at h4
   rw [<- h4]
  show K { ({ ((St.upd { s with nx:=s.nx+stride*i } (us++kills ids++nJ ids outs++(unpack (s.nx+stride*i) v).2.1)).put d (unpack (s.nx+stride*i) v).1) with nx:=(unpack (s.nx+stride*i) v).2.2 }:St) with nx:=s.nx }
  rw [e2]
  show K { ((s.upd _).put d _) with nx:=s.nx }
  rw [e3]
  exact h2
 ·rintro s1 a' w' ⟨h1,h2⟩ hr'
  refine hn { s1 with nx:=s.nx } a' w' rfl (SRel.same (hr'.up h1) rfl rfl) h2
theorem Si [ok:Ok (HS P) k] {d:Option Nat} {op:HOp HX} {f:FuncId} {vs ts:List HV} {us:List Upd} {io ids:List Nat} {K':HV->List HV->Prop} (hc:vU ⟨sl,st,nx⟩ op=some (f,vs)) (ht:aB (fun j=>au j st) vs=(ts,us,sd)) (hs:sd) (hio:(io.map (fun j=>vs[j]?)=ids.map fun id=>some (HV.pref id [] 0))) (hids:ids.Nodup) (hC:HTI P f ts io K')
  (h:∀v outs,K' v outs->outs.length=ids.length->∃v' us' n2 sl' st',unpack (nx+stride*i) v=(v',us',n2)/\n2<=nx+stride*(i+1)/\Ae d v' (tV sl st (us++kills ids++nJ ids outs++us'))=(sl',st')/\G P (HS P) all r (i+1) k rs K sl' st' nx):G P (HS P) all (⟨d,op,none⟩::r) i k rs K sl st nx:=by
 refine zD (Ut (s:=⟨sl,st,nx⟩) hc ht hs hio hids hC ?_)
 intro v outs hv hl
 obtain ⟨v',us',n2,sl',st',h2,h3,h4,h5⟩:=h v outs hv hl
 show (unpack (nx+stride*i) v).2.2<=nx+stride*(i+1)/\hx P _ _ ((St.upd ⟨sl,st,nx⟩ (us++kills ids++nJ ids outs++(unpack (nx+stride*i) v).2.1)).put d (unpack (nx+stride*i) v).1)
 rw [h2]
 exact ⟨h3,lS ok.mono ok.plain (mW h4) h5⟩
theorem zY [ok:Ok (HS P) k] {d:Option Nat} {f:FuncId} {xs:List HX} {vs ts:List HV} {us:List Upd} (io ids:List Nat) {K':HV->List HV->Prop} (hvs:xs.map (ev sl)=vs) (ht:aB (fun j=>au j st) vs=(ts,us,sd)) (hs:sd) (hio:(io.map (fun j=>vs[j]?)=ids.map fun id=>some (HV.pref id [] 0))) (hids:ids.Nodup) (hC:HTI P f ts io K')
  (h:∀v outs,K' v outs->outs.length=ids.length->∃v' us' n2 sl' st',unpack (nx+stride*i) v=(v',us',n2)/\n2<=nx+stride*(i+1)/\Ae d v' (tV sl st (us++kills ids++nJ ids outs++us'))=(sl',st')/\G P (HS P) all r (i+1) k rs K sl' st' nx):G P (HS P) all (⟨d,.call f xs,none⟩::r) i k rs K sl st nx :=
 Si (by subst hvs;rfl) ht hs hio hids hC h
theorem sJ [ok:Ok (HS P) k] {d:Option Nat} {f:FuncId} {x:HX} {cap:List HV} {xs:List HX} {vs ts:List HV} {us:List Upd} (io ids:List Nat) {K':HV->List HV->Prop} (hf:ev sl x=.fn f cap) (hvs:xs.map (ev sl)++cap=vs) (ht:aB (fun j=>au j st) vs=(ts,us,sd)) (hs:sd) (hio:(io.map (fun j=>vs[j]?)=ids.map fun id=>some (HV.pref id [] 0))) (hids:ids.Nodup) (hC:HTI P f ts io K')
  (h:∀v outs,K' v outs->outs.length=ids.length->∃v' us' n2 sl' st',unpack (nx+stride*i) v=(v',us',n2)/\n2<=nx+stride*(i+1)/\Ae d v' (tV sl st (us++kills ids++nJ ids outs++us'))=(sl',st')/\G P (HS P) all r (i+1) k rs K sl' st' nx):G P (HS P) all (⟨d,.callv x xs,none⟩::r) i k rs K sl st nx :=
 Si (by subst hvs;simp only [vU,HOp.map,hf]) ht hs hio hids hC h
theorem Zf {P:Program} {o:Oper} {nz:Nat} {x:HX} (h:aN P o=.mv nz x):∃y,(o.op=.move y\/o.op=.assign y)/\x=dO y:=by
 unfold aN at h
 repeat' split at h
 all_goals (first|(cases h;done)|(unfold yY at h;split at h<;>(cases h;done))|(unfold qA at h;split at h<;>(cases h;done))|skip)
 all_goals cases h
 ·exact ⟨_,.inl ‹_›,rfl⟩
 ·exact ⟨_,.inr ‹_›,rfl⟩
theorem YL {P:Program} {s:St} {i t nz:Nat} {x:HX} {K:St->Prop} (hx:ev s.sl x=.nils) (hK:K (s.put (some t) .nils)):yf P s i (some t) (.mv nz x) K:=by
 intro E ro a w next Q hd ho hr hn
 have hdst:ro.dst=some t:=hd
 have hop:aN P ro=.mv nz x:=by
  unfold aJ at ho
  by_cases h:(ro.dst.all fun d=>E.ok d)=true
  ·simpa [h] using ho
  ·simp [h] at ho
 have hok:E.ok t=true:=by
  unfold aJ at ho
  by_cases h:(ro.dst.all fun d=>E.ok d)=true
  ·simpa [hdst] using h
  ·simp [h] at ho
 obtain ⟨y,hy,rfl⟩:=Zf hop
 obtain ⟨loc,fp,hr⟩:=hr
 have hv:=hr.val y
 rw [<- jd] at hv
 rw [hx] at hv
 have hrun:(execOp a.eval ro).run P w=.ok (.value (a.eval y)) w:=by
  obtain ⟨dst,op,type,pos,after,guard⟩:=ro
  rcases hy with h|h<;>(simp only at h;subst h;rfl)
 unfold Oper.wp
 rw [hrun]
 show next (a.put ro.dst (a.eval y)) w
 rw [hdst]
 have hA:After E (s.nx+stride*i) s.S s.M [] .nils (a.eval y) a w:=hr.pure (aY _) hv
 have h3:=SRel.done (s:=s) (d:=some t) hA (fun t' ht=>by cases ht;exact hok)
 exact hn (s.put (some t) .nils) _ _ (St.put_nx _ _ _) (h3.up (by unfold stride;omega)) hK
theorem adJ [ok:Ok (HS P) k] {nz:Nat} (hx:ev sl x=.nils) (h:G P (HS P) all r (i+1) k rs K ((t,.nils)::sl) st nx):G P (HS P) all (⟨some t,.mv nz x,none⟩::r) i k rs K sl st nx:=by
 refine zD (YL (s:=⟨sl,st,nx⟩) hx ?_)
 refine lS ok.mono ok.plain ?_ h
 refine ⟨?_,rfl,rfl⟩
 funext j
 exact Ul j t .nils sl
end
end Go.HL
end
section
namespace Go.HL
open Go.RowKit
open Go.ChangeMaps (setBlock)
section
variable {P:Program} {E:Fr} {N fr:Nat} {sl st:Lk} {loc:Nat->Value} {fp:Nat->List Nat} {a:Act} {w:World}
theorem Jo {o:Oper} {x:HX} (h:aN P o=.mrng x):∃t y k e,o.op=.range t y/\P.underlying t=some (.map k e)/\x=dO y:=by
 unfold aN at h
 repeat' split at h
 all_goals (first|(cases h;done)|(unfold yY at h;split at h<;>(cases h;done))|(unfold qA at h;split at h<;>(cases h;done))|skip)
 cases h
 exact ⟨_,_,_,_,‹_›,‹_›,rfl⟩
theorem IP {o:Oper} {x:HX} (h:aN P o=.mnxt x):∃y,o.op=.next y false/\x=dO y:=by
 unfold aN at h
 repeat' split at h
 all_goals (first|(cases h;done)|(unfold yY at h;split at h<;>(cases h;done))|(unfold qA at h;split at h<;>(cases h;done))|skip)
 cases h
 exact ⟨_,‹_›,rfl⟩
theorem Uy {o:Oper} {x:HX} (h:aN P o=.ment x):∃y,o.op=.entry y/\x=dO y:=by
 unfold aN at h
 repeat' split at h
 all_goals (first|(cases h;done)|(unfold yY at h;split at h<;>(cases h;done))|(unfold qA at h;split at h<;>(cases h;done))|skip)
 cases h
 exact ⟨_,‹_›,rfl⟩
theorem Gi {t k e:TypeId} (ht:P.underlying t=some (.map k e)) {g:Nat} {es:Array MapEntry} {ck:Nat} (hg:w.heap[g]?=some (.map es ck)) :
  (Instr.range t (.map (some g))).run P w=.ok (.pointer (some ⟨w.heap.size,0,none⟩)) (w.alloc (.mapIter (some g) ck #[] ck)):=by
 simp [Instr.range,run_underlying ht,MapKept.run_getObj_map hg,newObj,Sem.run,Result.andThen,go_sem]
theorem Hf {t k e:TypeId} (ht:P.underlying t=some (.map k e)) :
  (Instr.range t (.map none)).run P w=.ok (.pointer (some ⟨w.heap.size,0,none⟩)) (w.alloc (.mapIter none 0 #[] 0)):=by
 simp [Instr.range,run_underlying ht,newObj,Sem.run,Result.andThen,go_sem]
theorem KR {F:Nat->Prop} {h:Hp} {b s c:Nat} {l:List Nat} {rv:Value} {fs:List Nat} (o:OW F h dG [.oitr b s l c] [rv] fs):∃g,rv=.pointer (some ⟨g,0,none⟩)/\fs=[g]/\h[g]?=some (.mapIter (obk b) s l.toArray c):=by
 cases o with
 | leaf _ _ _ _ _ _ h1=>exact h1.elim
 | oitr a d=>cases d;exact ⟨_,rfl,by simp,a⟩
theorem PN (hr:Rel E N sl st loc fp a w) (hfr:N<=fr) {t k e:TypeId} (ht:P.underlying t=some (.map k e)) {id:Nat} {p:List Nat} {rx:Value} (hx:V E N st loc fp w (.mref id p) rx) {m:MK} {ks cs:List HV} (hn:ax (st id) p=.omap m ks cs) :
  ∃r w' k0 bs ck,(Instr.range t rx).run P w=.ok r w'/\bs.length=ks.length/\bs.Nodup/\(∀b∈bs,b<ck) /\
   After E (fr+1) sl st [.put id (dh (.omap ⟨m.kind,some (k0,bs,ck)⟩ ks cs) (st id) p),.put fr (.oitr (k0+1) ck [] ck)] (.mref fr []) r a w':=by
 obtain ⟨hid,hp,_,_,h4⟩:=uZ hx
 have hnode:isNode (ax (st id) p):=by rw [hn];trivial
 obtain ⟨rv',f1,f',f2,e1,e2,e3,e4,hnil,rep⟩:=(hr.tree id (bZ hnode)).focus hp hnode
 have b1:=h4 (by rw [hn];trivial)
 rw [e1] at b1
 cases b1
 rw [hn] at e3
 have e30:=e3
 obtain ⟨g,es,ck,f3,rfl,q1,q2,rfl,q4⟩:=Ai e3
 refine ⟨_,_,g,es.toList.map (·.born),ck,Gi ht q1,?_,q2.nodup,?_,?_⟩
 ·have:=congrArg List.length q2.keys
  simpa using this
 ·intro b hb
  obtain ⟨e,he,rfl⟩:=zl020.1 hb
  exact q2.lt e he
 have old:∀b,b<w.heap.size->(w.alloc (.mapIter (some g) ck #[] ck)).heap[b]?=w.heap[b]?:=fun b hb=>fA w _ hb
 have hsz:(w.alloc (.mapIter (some g) ck #[] ck)).heap.size=w.heap.size+1:=dJ w _
 have hnew:(w.alloc (.mapIter (some g) ck #[] ck)).heap[w.heap.size]?=some (.mapIter (some g) ck #[] ck):=iJ w _ rfl
 have m2:(w.alloc (.mapIter (some g) ck #[] ck)).os=w.os:=rfl
 have m3:(w.alloc (.mapIter (some g) ck #[] ck)).tape=w.tape:=rfl
 have m4:(w.alloc (.mapIter (some g) ck #[] ck)).output=w.output:=rfl
 generalize w.alloc (.mapIter (some g) ck #[] ck)=w' at *
 have hsub:∀b∈g::f3,b<w.heap.size:=fun b hb=>hr.lt id b (by rw [e2];rcases zl011.1 hb with h|h<;>simp [h])
 have hfnd:(f1++(g::f3)++f2).Nodup:=by rw [<- e2];exact hr.nodup id
 have hnd3:(g::f3).Nodup:=by rw [zl008,zl008] at hfnd;exact hfnd.1.2.1
 have onode:OW (frz E fp w) w'.heap dG [.omap ⟨m.kind,some (g,es.toList.map (·.born),ck)⟩ ks cs] [.map (some g)] (g::f3):=by
  have:=OW.omap (F:=frz E fp w) (h:=w'.heap) (R:=dG) (m:=⟨m.kind,some (g,es.toList.map (·.born),ck)⟩) (ks:=ks) (cs:=cs) (by rw [old g (hsub g (by simp))];exact q1) ⟨q2.keys,q2.good,q2.lt,q2.nodup,.inr rfl⟩ (q4.stable (fun b hb=>old b (hsub b (by simp [hb]))) (fun b hb=>⟨hb,old b hb.1⟩) (fun _ _ h=>h)) .nil
  simpa using this
 have oit:OW (frz E fp w) w'.heap dG [.oitr (g+1) ck [] ck] [.pointer (some ⟨w.heap.size,0,none⟩)] [w.heap.size]:=by
  have:=OW.oitr (F:=frz E fp w) (h:=w'.heap) (R:=dG) (b:=g+1) (s:=ck) (l:=[]) (c:=ck) hnew .nil
  simpa using this
 have hidfr:id≠fr:=by omega
 have stus:∀j,Lk.upd st [.put id (dh (.omap ⟨m.kind,some (g,es.toList.map (·.born),ck)⟩ ks cs) (st id) p),.put fr (.oitr (g+1) ck [] ck)] j=if j=fr then .oitr (g+1) ck [] ck else if j=id then dh (.omap ⟨m.kind,some (g,es.toList.map (·.born),ck)⟩ ks cs) (st id) p else if j∈([]:List Nat) then .dead else st j:=fun j=>by
  simp [Lk.upd]
 have hcell:∀r',r'≠[]->r'.length<=2->(∃v,dW v=some id/\True/\((∃i sz o n,v=.ref i (p++r') sz o n)\/(∃i o,v=.pref i (p++r') o)\/∃i,v=.mref i (p++r'))) ->
   kind (ax (.omap ⟨m.kind,some (g,es.toList.map (·.born),ck)⟩ ks cs) r')=none\/(kind (ax (.omap ⟨m.kind,some (g,es.toList.map (·.born),ck)⟩ ks cs) r')=kind (ax (ax (st id) p) r')/\dA w'.heap (.map (some g)) r'=dA w.heap (.map (some g)) r'):=by
  intro r' hr' hl2 _
  cases r' with
  | nil=>exact absurd rfl hr'
  | cons j r' =>
   have he:ax (.omap ⟨m.kind,some (g,es.toList.map (·.born),ck)⟩ ks cs) (j::r')=ax (.omap m ks cs) (j::r'):=rfl
   rw [he,hn]
   by_cases hk:kind (ax (.omap m ks cs) (j::r'))=none
   ·exact .inl hk
   ·right
    refine ⟨rfl,?_⟩
    obtain ⟨rv2,g1,g2,g3,n1,n2,_,n4,_,_⟩:=e30.focus hl2 (kind_node.2 hk)
    rw [n1]
    exact (n4 w'.heap fun b hb=>old b (hsub b (by rw [n2];rcases zl002.1 hb with h|h<;>simp [h]))).1
 obtain ⟨loc',fp',r1,r2,r3,r4⟩:=hr.mod _ hr.all hfr (ids:=[]) (by simp) (by simp) hp hnode e1 e2 e4 hnil rep stus (by omega) m2 m3 m4
  (fun b hb _ _=>old b hb) onode (.inr (by rw [hn];rfl)) (fun h=>by cases h) oit (fun h=>by cases h)
  (fun b hb=>by
   rcases zl002.1 hb with h|h
   ·exact .inr (.inr h)
   ·simp at h;subst h;exact .inl ⟨aY _,by omega⟩)
  (by
   rw [zl008]
   exact ⟨hnd3,by simp,fun x hx y hy e=>by simp at hy;subst hy;have:=hsub x hx;omega⟩) hcell
 refine ⟨loc',fp',r1,dE rfl ⟨by omega,by simp,⟨_,.inr rfl⟩,?_,fun _=>by simp [dA,r2]⟩⟩
 simp [ax,Lk.upd]
theorem OE (hr:Rel E N sl st loc fp a w) (hfr:N<=fr) {t k e:TypeId} (ht:P.underlying t=some (.map k e)) :
  ∃r w',(Instr.range t (.map none)).run P w=.ok r w'/\After E (fr+1) sl st [.put fr (.oitr 0 0 [] 0)] (.mref fr []) r a w':=by
 refine ⟨_,_,Hf ht,?_⟩
 have hT:=OW.oitr (F:=frz E fp w) (h:=(w.alloc (.mapIter none 0 #[] 0)).heap) (R:=dG) (b:=0) (s:=0) (l:=[]) (c:=0) (iJ w _ rfl) .nil
 obtain ⟨loc',fp',q1,q2,q3,q4⟩:=hr.build (ids:=[]) (us:=[]) (w':=w.alloc (.mapIter none 0 #[] 0)) (T:=.oitr 0 0 [] 0) (rT:=.pointer (some ⟨w.heap.size,0,none⟩)) (fT:=[w.heap.size]) hfr (by simp) (by simp [Lk.upd]) (fun _=>rfl) (by rw [dJ];omega) rfl rfl rfl (fun b hb _=>fA _ _ hb) (by simpa using hT) (by simp [dJ]) (by simp) (by simp)
 exact ⟨loc',fp',q1,dE rfl ⟨by omega,by simp,⟨_,.inr rfl⟩,by simp [ax,Lk.upd],fun _=>by simp [dA,q2]⟩⟩
theorem Xk {F:Nat->Prop} {h:Hp} {R:HV->Value->Prop} {kk:KK} {k:HV} (hg:dB kk k=true):OW F h R [k] [kv k] []:=by
 cases kk<;>cases k<;>simp only [dB,Bool.false_eq_true] at hg
 ·exact .int .nil
 ·exact .str .nil
 ·simp only [aZ] at hg
  obtain ⟨l,rfl⟩:=vC hg.2
  rw [xm]
  have hl:∀l:List Int,OW F h R (l.map (HV.int .i64)) (l.map (Value.int .i64)) []:=fun l=>by
   induction l with
   | nil=>exact .nil
   | cons n l ih=>exact .int ih
  have:=OW.agg (hl l) .nil
  simpa using this
theorem O3 (hr:Rel E N sl st loc fp a w) (hfr:N<=fr) {ty:TypeId} {iid id k0 since last ck:Nat} {p:List Nat} {seen bs:List Nat} {rx:Value} {kd:KK} {ks cs:List HV} (hx:V E N st loc fp w (.mref iid []) rx) (hit:st iid=.oitr (k0+1) since seen last)
  (hp:p.length<=2) (hn:ax (st id) p=.omap ⟨kd,some (k0,bs,ck)⟩ ks cs) (hold:∀b∈bs,b<since) (hsc:since<=last) :
  ∃r w',(Instr.next rx false ty).run P w=.ok r w' /\
   (((∀b∈bs,b∈seen)/\After E (fr+1) sl st [] (.tup [.bool false]) r a w') \/
    ∃j,j<ks.length/\j<cs.length/\bs.getD j 0 ∉ seen/\After E (fr+1) sl st [.put iid (.oitr (k0+1) since (seen++[bs.getD j 0]) ck)] (.tup [.bool true,ks.getD j .dead,look id p j (cs.getD j .dead)]) r a w'):=by
 obtain ⟨hidN,_,_,_,h4⟩:=uZ hx
 have b1:=h4 (by rw [ax,hit];trivial)
 simp only [dA,bT] at b1
 subst b1
 have hti:=hr.tree iid (by rw [hit];simp)
 rw [hit] at hti
 obtain ⟨gi,hli,hfi,hgi⟩:=KR hti
 have hnode:isNode (ax (st id) p):=by rw [hn];trivial
 have hmd:=bZ hnode
 obtain ⟨rv',f1,f',f2,e1,e2,e3,e4,hnil,rep⟩:=(hr.tree id hmd).focus hp hnode
 rw [hn] at e3
 obtain ⟨g,es,ck',f3,rfl,q1,q2,rfl,q4⟩:=Ai e3
 have hpin:(some (k0,bs,ck):Option (Nat×List Nat×Nat))=some (g,es.toList.map (·.born),ck'):=by
  rcases q2.pin with h|h
  ·cases h
  ·exact h
 simp only [bT,jg] at hpin
 obtain ⟨rfl,rfl,rfl⟩:=hpin
 have hne:iid≠id:=fun e=>by
  subst e
  rw [hit] at hn
  cases p<;>simp [ax] at hn
 have hid:id<N:=by
  rcases dX id N with h|h
  ·exact h
  ·exact absurd (hr.new id h) hmd
 have hold':∀x∈es.toList,x.born<since:=fun x hx=>hold _ (zl020.2 ⟨x,hx,rfl⟩)
 rw [hli]
 rcases run_next_at (P:=P) w ty gi k0 since last seen.toArray es ck (by simpa [obk] using hgi) q1 hold' hsc with ⟨hd,hrun⟩|⟨e,he,w1,hw1,hrun⟩
 ·refine ⟨_,w,hrun,.inl ⟨fun b hb=>?_,?_⟩⟩
  ·obtain ⟨x,hx,rfl⟩:=zl020.1 hb
   have h0:leftOf es seen.toArray=#[]:=WF hd
   unfold leftOf at h0
   rw [Array.filter_eq_empty_iff] at h0
   have:=h0 x (by simpa using hx)
   simpa using this
  ·exact hr.pure (by omega) (by simpa using OW.tup (OW.bool (b:=false) .nil) .nil)
 ·have hmem:e∈es.toList/\e.born ∉ seen:=by
   unfold leftOf at he
   simpa using he
  obtain ⟨j,hj⟩:=List.mem_iff_getElem?.1 hmem.1
  have hjl:j<es.toList.length:=(zl026.1 hj).1
  have hkl:es.toList.length=ks.length:=by simpa using congrArg List.length q2.keys
  have hcl:cs.length=es.toList.length:=by simpa using q4.length
  have hbj:(es.toList.map (·.born)).getD j 0=e.born:=by
   simp only [bf,fZ,hj,gV,fV]
  refine ⟨_,_,hrun,.inr ⟨j,by omega,by omega,by rw [hbj];exact hmem.2,?_⟩⟩
  rw [hbj]
  have hr1:Rel E N sl st loc fp a w1:=by
   rcases hw1 with rfl|rfl
   ·exact hr
   ·exact hr.drew _
  have hh1:w1.heap=w.heap:=by rcases hw1 with rfl|rfl<;>rfl
  have hgi1:w1.heap[gi]?=some (.mapIter (some k0) since seen.toArray last):=by rw [hh1];simpa [obk] using hgi
  have hx1:V E N st loc fp w1 (.mref iid []) (loc iid):=dE rfl ⟨hidN,by simp,⟨gi,.inr hli⟩,by rw [ax,hit];simp,fun _=>rfl⟩
  have d1:(setBlock w1 gi (.mapIter (some k0) since (seen.toArray.push e.born) ck)).heap[gi]?=some (.mapIter (some k0) since (seen.toArray.push e.born) ck):=(MapKept.heap_set hgi1).1
  have oth:∀b,b≠gi->(setBlock w1 gi (.mapIter (some k0) since (seen.toArray.push e.born) ck)).heap[b]?=w1.heap[b]?:=fun b hb=>(MapKept.heap_set hgi1).2 b hb
  have m1:(setBlock w1 gi (.mapIter (some k0) since (seen.toArray.push e.born) ck)).heap.size=w1.heap.size:=by simp [setBlock]
  have m2:(setBlock w1 gi (.mapIter (some k0) since (seen.toArray.push e.born) ck)).os=w1.os:=rfl
  have m3:(setBlock w1 gi (.mapIter (some k0) since (seen.toArray.push e.born) ck)).tape=w1.tape:=rfl
  have m4:(setBlock w1 gi (.mapIter (some k0) since (seen.toArray.push e.born) ck)).output=w1.output:=rfl
  generalize setBlock w1 gi (.mapIter (some k0) since (seen.toArray.push e.born) ck)=w' at *
  have oit:OW (frz E fp w1) w'.heap dG [.oitr (k0+1) since (seen++[e.born]) ck] [loc iid] [gi]:=by
   have:=OW.oitr (F:=frz E fp w1) (h:=w'.heap) (R:=dG) (b:=k0+1) (s:=since) (l:=seen++[e.born]) (c:=ck) (by rw [d1];simp [obk]) .nil
   rw [hli]
   simpa using this
  have stus:∀i,Lk.upd st [.put iid (.oitr (k0+1) since (seen++[e.born]) ck)] i=if i=fr then .dead else if i=iid then dh (.oitr (k0+1) since (seen++[e.born]) ck) (st iid) [] else if i∈([]:List Nat) then .dead else st i:=fun i=>by
   have:iid≠fr:=by omega
   simp only [Lk.upd,dh]
   by_cases h1:i=iid
   ·simp [h1,this]
   ·by_cases h2:i=fr
    ·subst h2;simp [h1,hr.new i hfr]
    ·simp [h1,h2]
  obtain ⟨loc',fp',r1,r2,r3,r4⟩:=hr1.mod _ hr1.all hfr (ids:=[]) (id0:=iid) (p:=[]) (by simp) (by simp) (by simp) (by rw [ax,hit];trivial) (rv':=loc iid) (f1:=[]) (f':=fp iid) (f2:=[]) rfl (by simp)
   (fun h' _=>⟨rfl,fun q _ _ hq=>absurd List.nil_prefix hq⟩) (by simp) (fun F' h' t'' f'' _ _ on=>by simpa [dh] using on) stus (by omega) m2 m3 m4
   (fun b _ _ hb=>oth b (fun e=>hb (by rw [hfi];simp [e]))) oit (.inr (by rw [ax,hit];rfl)) (fun h=>by cases h) (.dead .nil:OW (frz E fp w1) w'.heap dG [.dead] [undef] []) (fun _=>rfl)
   (fun b hb=>by rw [hfi];exact .inr (.inr (by simpa using hb))) (by simp)
   (fun r hr0 _ _=>.inl (by cases r with|nil=>exact absurd rfl hr0|cons _ _=>rfl))
  refine ⟨loc',fp',r1,?_⟩
  obtain ⟨rv,g1,g2,g3,k1,k2,k3,_⟩:=q4.at j (by omega)
  rw [fZ,hj] at k1
  simp only [gV,bT] at k1
  subst k1
  have lk:OW (frz E fp w) w.heap (RefR N st loc w.heap) [look id p j (cs.getD j .dead)] [e.val] []:=k3.look hid hp (fun _ _ h=>h.elim) ⟨by rw [oN,hn];simp [ax],by
   rw [wu e1]
   have hj2:es[j]?=some e:=by simpa using hj
   simp only [dA,kL,Nat.zero_add]
   rw [Bi q1,hj2];rfl⟩
  have hkey:e.key=kv (ks.getD j .dead):=by
   have h1:(es.toList.map (·.key))[j]?=(ks.map kv)[j]?:=by rw [q2.keys]
   have hjk:j<ks.length:=by omega
   rw [fZ,hj,fZ,bn hjk] at h1
   simp only [gV,bT] at h1
   rw [h1];simp [hjk]
  have hgk:dB kd (ks.getD j .dead)=true:=by
   have hjk:j<ks.length:=by omega
   have:=zl016.1 q2.good _ (iD hjk)
   simpa [hjk] using this
  have lk':=lk.stable (F':=frz E fp' w') (h':=w'.heap) (R':=RefR (fr+1) (Lk.upd st [.put iid (.oitr (k0+1) since (seen++[e.born]) ck)]) loc' w'.heap) (by simp) (fun b hb=>by
   have hb1:frz E fp w1 b:=by unfold frz at hb ⊢;rw [hh1];exact hb
   have:=r3 b hb1
   rw [<- hh1];exact this) (fun v rv hv=>r4 v rv (by rw [hh1];exact hv) trivial)
  have key':OW (frz E fp' w') w'.heap (RefR (fr+1) (Lk.upd st [.put iid (.oitr (k0+1) since (seen++[e.born]) ck)]) loc' w'.heap) [ks.getD j .dead] [e.key] []:=by rw [hkey];exact Xk hgk
  have:=OW.tup ((OW.bool (b:=true) .nil:OW (frz E fp' w') w'.heap (RefR (fr+1) (Lk.upd st [.put iid (.oitr (k0+1) since (seen++[e.born]) ck)]) loc' w'.heap) [.bool true] [.bool true] []).append (key'.append lk')) .nil
  simpa using this
theorem MM (hr:Rel E N sl st loc fp a w) (hfr:N<=fr) {ty:TypeId} {iid since last:Nat} {seen:List Nat} {rx:Value} (hx:V E N st loc fp w (.mref iid []) rx) (hit:st iid=.oitr 0 since seen last) :
  ∃r,(Instr.next rx false ty).run P w=.ok r w/\After E (fr+1) sl st [] (.tup [.bool false]) r a w:=by
 obtain ⟨hidN,_,_,_,h4⟩:=uZ hx
 have b1:=h4 (by rw [ax,hit];trivial)
 simp only [dA,bT] at b1
 subst b1
 have hti:=hr.tree iid (by rw [hit];simp)
 rw [hit] at hti
 obtain ⟨gi,hli,hfi,hgi⟩:=KR hti
 rw [hli]
 refine ⟨.tuple #[.bool false],?_,hr.pure (by omega) (by simpa using OW.tup (OW.bool (b:=false) .nil) .nil)⟩
 simp [Instr.next,getObj,Sem.run,hgi,obk,Result.andThen,go_sem]
theorem O7 (hr:Rel E N sl st loc fp a w) (hfr:N<=fr) {iid id k0 since j ck:Nat} {p:List Nat} {seen bs:List Nat} {rx:Value} {kd:KK} {ks cs:List HV} (hx:V E N st loc fp w (.mref iid []) rx) (hit:st iid=.oitr (k0+1) since (seen++[bs.getD j 0]) ck)
  (hp:p.length<=2) (hn:ax (st id) p=.omap ⟨kd,some (k0,bs,ck)⟩ ks cs) (hj:j<ks.length) :
  ∃r,(Instr.entry rx).run P w=.ok r w/\After E (fr+1) sl st [] (.tup [ks.getD j .dead,look id p j (cs.getD j .dead)]) r a w:=by
 obtain ⟨hidN,_,_,_,h4⟩:=uZ hx
 have b1:=h4 (by rw [ax,hit];trivial)
 simp only [dA,bT] at b1
 subst b1
 have hti:=hr.tree iid (by rw [hit];simp)
 rw [hit] at hti
 obtain ⟨gi,hli,hfi,hgi⟩:=KR hti
 have hnode:isNode (ax (st id) p):=by rw [hn];trivial
 have hmd:=bZ hnode
 obtain ⟨rv',f1,f',f2,e1,e2,e3,e4,hnil,rep⟩:=(hr.tree id hmd).focus hp hnode
 rw [hn] at e3
 obtain ⟨g,es,ck',f3,rfl,q1,q2,rfl,q4⟩:=Ai e3
 have hpin:(some (k0,bs,ck):Option (Nat×List Nat×Nat))=some (g,es.toList.map (·.born),ck'):=by
  rcases q2.pin with h|h
  ·cases h
  ·exact h
 simp only [bT,jg] at hpin
 obtain ⟨rfl,rfl,rfl⟩:=hpin
 have hid:id<N:=by
  rcases dX id N with h|h
  ·exact h
  ·exact absurd (hr.new id h) hmd
 have hkl:es.toList.length=ks.length:=by simpa using congrArg List.length q2.keys
 have hcl:cs.length=es.toList.length:=by simpa using q4.length
 have hjl:j<es.toList.length:=by omega
 have hbj:(es.toList.map (·.born)).getD j 0=es.toList[j].born:=by
  simp only [bf,fZ,bn hjl,gV,fV]
 have he:es.toList[j]∈es.toList:=iD hjl
 rw [hli]
 refine ⟨_,run_entry_at w gi k0 since seen.toArray es ck es.toList[j] (by rw [hgi,hbj];simp [obk]) q1 he q2.nodup,hr.pure (by omega) ?_⟩
 have hjj:es.toList[j]?=some es.toList[j]:=bn hjl
 generalize es.toList[j]=e at *
 obtain ⟨rv,g1,g2,g3,k1,k2,k3,_⟩:=q4.at j (by omega)
 rw [fZ,hjj] at k1
 simp only [gV,bT] at k1
 subst k1
 have lk:OW (frz E fp w) w.heap (RefR N st loc w.heap) [look id p j (cs.getD j .dead)] [e.val] []:=k3.look hid hp (fun _ _ h=>h.elim) ⟨by rw [oN,hn];simp [ax],by
  rw [wu e1]
  have hj2:es[j]?=some e:=by simpa using hjj
  simp only [dA,kL,Nat.zero_add]
  rw [Bi q1,hj2];rfl⟩
 have hkey:e.key=kv (ks.getD j .dead):=by
  have h1:(es.toList.map (·.key))[j]?=(ks.map kv)[j]?:=by rw [q2.keys]
  rw [fZ,hjj,fZ,bn hj] at h1
  simp only [gV,bT] at h1
  rw [h1];simp [hj]
 have hgk:dB kd (ks.getD j .dead)=true:=by
  have:=zl016.1 q2.good _ (iD hj)
  simpa [hj] using this
 have key':OW (frz E fp w) w.heap (RefR N st loc w.heap) [ks.getD j .dead] [e.key] []:=by rw [hkey];exact Xk hgk
 have:=OW.tup (key'.append lk) .nil
 simpa using this
theorem Ha {s:St} {i:Nat} {d:Option Nat} {op:HOp HX} {K:St->Prop} (h:∀ (E:Fr) (ro:Oper) (a:Act) (w:World) (loc:Nat->Value) (fp:Nat->List Nat),aN P ro=op->Rel E (s.nx+stride*i) s.S s.M loc fp a w ->
  ∃r w' us v,(execOp a.eval ro).run P w=.ok (.value r) w'/\After E (s.nx+stride*i+1) s.S s.M us v r a w'/\K ((s.upd us).put d v)) (hop:op≠.bad):yf P s i d op K:=by
 intro E ro a w next Q hd ho hr hnext
 have hdst:ro.dst=d:=hd
 have hok:(ro.dst.all fun d=>E.ok d)=true:=by
  by_cases hh:(ro.dst.all fun d=>E.ok d)=true
  ·exact hh
  ·exfalso
   unfold aJ at ho
   simp only [hh] at ho
   exact hop ho.symm
 have hop':aN P ro=op:=by
  unfold aJ at ho
  simpa [hok] using ho
 obtain ⟨loc,fp,hr⟩:=hr
 obtain ⟨r,w',us,v,h1,h2,h3⟩:=h E ro a w loc fp hop' hr
 unfold Oper.wp
 rw [h1]
 show next (a.put ro.dst r) w'
 rw [hdst]
 refine hnext _ _ _ ?_ ((SRel.done (s:=s) (d:=d) h2 (fun t' ht=>by rw [hdst,ht] at hok;simpa using hok)).up (by unfold stride;omega)) h3
 rw [St.put_nx,St.upd_nx]
theorem V4 {s:St} {i:Nat} {d:Option Nat} {x:HX} {id:Nat} {p:List Nat} {m:MK} {ks cs:List HV} {K:St->Prop} (hx:ev s.sl x=.mref id p) (hn:ax (s.M id) p=.omap m ks cs)
  (hK:∀k0 bs ck,bs.length=ks.length->bs.Nodup->(∀b∈bs,b<ck)->K ((s.upd [.put id (dh (.omap ⟨m.kind,some (k0,bs,ck)⟩ ks cs) (s.M id) p),.put (s.nx+stride*i) (.oitr (k0+1) ck [] ck)]).put d (.mref (s.nx+stride*i) []))):yf P s i d (.mrng x) K:=by
 refine Ha (fun E ro a w loc fp ho hr=>?_) (by simp)
 obtain ⟨t,y,k,e,q1,q2,rfl⟩:=Jo ho
 have hxv:=hr.val y
 rw [<- jd,hx] at hxv
 obtain ⟨r,w',k0,bs,ck,h1,h2,h3,h4,h5⟩:=PN (P:=P) hr (aY _) q2 hxv hn
 exact ⟨r,w',_,_,by simp [execOp,q1,h1],h5,hK k0 bs ck h2 h3 h4⟩
theorem UO {s:St} {i:Nat} {d:Option Nat} {x:HX} {K:St->Prop} (hx:ev s.sl x=.nilm)
  (hK:K ((s.upd [.put (s.nx+stride*i) (.oitr 0 0 [] 0)]).put d (.mref (s.nx+stride*i) []))):yf P s i d (.mrng x) K:=by
 refine Ha (fun E ro a w loc fp ho hr=>?_) (by simp)
 obtain ⟨t,y,k,e,q1,q2,rfl⟩:=Jo ho
 have hxv:=hr.val y
 rw [<- jd,hx] at hxv
 have hv:=Dx hxv
 obtain ⟨r,w',h1,h5⟩:=OE (P:=P) hr (aY _) q2
 exact ⟨r,w',_,_,by simp [execOp,q1,hv,h1],h5,hK⟩
theorem Vl {s:St} {i:Nat} {d:Option Nat} {x:HX} {iid id k0 since last ck:Nat} {p:List Nat} {seen bs:List Nat} {kd:KK} {ks cs:List HV} {K:St->Prop} (hx:ev s.sl x=.mref iid []) (hit:s.M iid=.oitr (k0+1) since seen last)
  (hp:p.length<=2) (hn:ax (s.M id) p=.omap ⟨kd,some (k0,bs,ck)⟩ ks cs) (hold:∀b∈bs,b<since) (hsc:since<=last)
  (hdone:(∀b∈bs,b∈seen)->K (s.put d (.tup [.bool false])))
  (hmore:∀j,j<ks.length->j<cs.length->bs.getD j 0 ∉ seen->K ((s.upd [.put iid (.oitr (k0+1) since (seen++[bs.getD j 0]) ck)]).put d (.tup [.bool true,ks.getD j .dead,look id p j (cs.getD j .dead)]))):yf P s i d (.mnxt x) K:=by
 refine Ha (fun E ro a w loc fp ho hr=>?_) (by simp)
 obtain ⟨y,q1,rfl⟩:=IP ho
 have hxv:=hr.val y
 rw [<- jd,hx] at hxv
 obtain ⟨r,w',h1,h2⟩:=O3 (P:=P) (ty:=ro.type) hr (aY _) hxv hit hp hn hold hsc
 rcases h2 with ⟨h2,h3⟩|⟨j,h2,h3,h4,h5⟩
 ·exact ⟨r,w',_,_,by simp [execOp,q1,h1],h3,hdone h2⟩
 ·exact ⟨r,w',_,_,by simp [execOp,q1,h1],h5,hmore j h2 h3 h4⟩
theorem UV {s:St} {i:Nat} {d:Option Nat} {x:HX} {iid since last:Nat} {seen:List Nat} {K:St->Prop} (hx:ev s.sl x=.mref iid []) (hit:s.M iid=.oitr 0 since seen last)
  (hK:K (s.put d (.tup [.bool false]))):yf P s i d (.mnxt x) K:=by
 refine Ha (fun E ro a w loc fp ho hr=>?_) (by simp)
 obtain ⟨y,q1,rfl⟩:=IP ho
 have hxv:=hr.val y
 rw [<- jd,hx] at hxv
 obtain ⟨r,h1,h3⟩:=MM (P:=P) (ty:=ro.type) hr (aY _) hxv hit
 exact ⟨r,w,_,_,by simp [execOp,q1,h1],h3,hK⟩
theorem V9 {s:St} {i:Nat} {d:Option Nat} {x:HX} {iid id k0 since ck j:Nat} {p:List Nat} {seen bs:List Nat} {kd:KK} {ks cs:List HV} {K:St->Prop} (hx:ev s.sl x=.mref iid []) (hit:s.M iid=.oitr (k0+1) since (seen++[bs.getD j 0]) ck)
  (hp:p.length<=2) (hn:ax (s.M id) p=.omap ⟨kd,some (k0,bs,ck)⟩ ks cs) (hj:j<ks.length)
  (hK:K (s.put d (.tup [ks.getD j .dead,look id p j (cs.getD j .dead)]))):yf P s i d (.ment x) K:=by
 refine Ha (fun E ro a w loc fp ho hr=>?_) (by simp)
 obtain ⟨y,q1,rfl⟩:=Uy ho
 have hxv:=hr.val y
 rw [<- jd,hx] at hxv
 obtain ⟨r,h1,h3⟩:=O7 (P:=P) hr (aY _) hxv hit hp hn hj
 exact ⟨r,w,_,_,by simp [execOp,q1,h1],h3,hK⟩
end
end Go.HL
end
section
namespace Go.HL
open Go.RowKit
theorem eM {v:HV} {id:Nat} {p:List Nat} (h:v=.mref id p):v=.mref id p:=h
theorem eK {v:HV} (h:v=.nilm):v=.nilm:=h
theorem eV {v:HV} {m:MK} {ks cs:List HV} (h:v=.rmap m ks cs):v=.rmap m ks cs:=h
theorem eY {v:HV} {m:MK} {ks cs:List HV} (h:v=.omap m ks cs):v=.omap m ks cs:=h
def Fg (ks cs:List HV) (z k:HV):HV×Bool :=
 match dN k ks with
 | some j=>(cs.getD j .dead,true)
 | none=>(z,false)
def o6 (id:Nat) (p:List Nat) (ks cs:List HV) (z k:HV):HV×Bool :=
 match dN k ks with
 | some j=>(look id p j (cs.getD j .dead),true)
 | none=>(z,false)
theorem Ti {id j:Nat} {p:List Nat} {v:HV} (h:fH v=true):look id p j v=v:=by
 cases v<;>first|rfl|cases h
theorem tq {id:Nat} {p:List Nat} {ks cs:List HV} {z k:HV} (hl:cs.length=ks.length) (h:bC cs=true):o6 id p ks cs z k=Fg ks cs z k:=by
 unfold o6 Fg
 cases hf:dN k ks with
 | none=>rfl
 | some j =>
  have hj:j<cs.length:=by rw [hl];exact ul hf
  have:fH (cs.getD j .dead)=true:=by
   have:=zl016.1 h _ (iD hj)
   simpa [hj] using this
  simp only [Ti this]
structure KF {α:Type} [DecidableEq α] (f:α->HV):Prop where
 eq:∀a b,zI (f a) (f b)=decide (a=b)
theorem jU {α:Type} [DecidableEq α] {f:α->HV} (K:KF f) (a:α):∀l:List α,dN (f a) (l.map f)=if a∈l then some (l.idxOf a) else none
 | []=>rfl
 | b::l=>by
  simp only [dP,dN,K.eq,jU K a l,zl011]
  by_cases h:a=b
  ·subst h;simp
  ·have h':¬ b=a:=fun e=>h e.symm
   by_cases h2:a∈l
   ·have hb:(b==a)=false:=by simpa using h'
    simp [h,h2,List.idxOf_cons,hb]
   ·simp [h,h2]
theorem XN {α:Type} [DecidableEq α] {f g:α->HV} (K:KF f) (a:α) (l:List α) (z:HV):Fg (l.map f) (l.map g) z (f a)=if a∈l then (g a,true) else (z,false):=by
 unfold Fg
 rw [jU K]
 by_cases h:a∈l
 ·simp only [if_pos h]
  have hj:l.idxOf a<l.length:=List.idxOf_lt_length_of_mem h
  simp [bn hj]
 ·simp only [if_neg h]
def ins {α:Type} [DecidableEq α] (a:α) (l:List α):List α:=if a∈l then l else l++[a]
theorem mem_ins {α:Type} [DecidableEq α] {a b:α} {l:List α}:b∈ins a l <-> b=a\/b∈l:=by
 unfold ins;split
 ·rename_i h;constructor
  ·exact .inr
  ·rintro (rfl|h');exact h;exact h'
 ·simp [or_comm]
theorem ins_nodup {α:Type} [DecidableEq α] {a:α} {l:List α} (h:l.Nodup):(ins a l).Nodup:=by
 unfold ins;split
 ·exact h
 ·rename_i h2
  rw [zl008]
  exact ⟨h,by simp,fun x hx y hy e=>by simp at hy;subst hy;exact h2 (e▸hx)⟩
abbrev qh (n:Nat):List HV:=List.replicate n (.bool true)
theorem Y5 {α:Type} (l:List α):qh l.length=l.map fun _=>HV.bool true:=by simp only [qh];exact (List.map_const' ..).symm
theorem OD {α:Type} [DecidableEq α] {f:α->HV} (K:KF f) (a:α) (l:List α):Fg (l.map f) (qh l.length) (.bool false) (f a)=(.bool (decide (a∈l)),decide (a∈l)):=by
 rw [Y5,XN K]
 by_cases h:a∈l<;>simp [h]
theorem UE {α:Type} [DecidableEq α] {f:α->HV} (K:KF f) {id:Nat} {p:List Nat} (a:α) (l:List α):o6 id p (l.map f) (qh l.length) (.bool false) (f a)=(.bool (decide (a∈l)),decide (a∈l)):=by
 rw [tq (by simp [qh]) (by simp [qh,bC,fH]),OD K]
theorem Vt {α:Type} [DecidableEq α] {f:α->HV} (K:KF f) {kd:KK} (a:α) (l:List α):zM ⟨kd,none⟩ (l.map f) (qh l.length) (f a) (.bool true)=.omap ⟨kd,none⟩ ((ins a l).map f) (qh (ins a l).length):=by
 unfold zM ins
 rw [jU K]
 by_cases h:a∈l
 ·simp only [if_pos h]
  congr 1
  apply rF
  intro i
  rw [CW]
  split
  ·rename_i e;subst e
   have:l.idxOf a<(qh l.length).length:=by simpa [qh] using List.idxOf_lt_length_of_mem h
   have h2:l.idxOf a<l.length:=List.idxOf_lt_length_of_mem h
   simp [qh,h2]
  ·rfl
 ·simp only [if_neg h]
  simp [MK.grow,qh,List.replicate_succ']
theorem Ho {α:Type} [DecidableEq α] {f:α->HV} (K:KF f) {kd:KK} (a:α) (l:List α) (cs:List HV) (v:HV) (h:a ∉ l):zM ⟨kd,none⟩ (l.map f) cs (f a) v=.omap ⟨kd,none⟩ ((l++[a]).map f) (cs++[v]):=by
 unfold zM
 rw [jU K,if_neg h]
 simp [MK.grow]
abbrev pk (x:Int×Int):HV:=.agg [.int .i64 x.1,.int .i64 x.2]
theorem IX:KF pk:=⟨fun a b=>by
 obtain ⟨a1,a2⟩:=a
 obtain ⟨b1,b2⟩:=b
 simp only [zI,ng,Bool.and_true,jg]
 by_cases h1:a1=b1<;>by_cases h2:a2=b2<;>simp [h1,h2]⟩
abbrev ik (x:Int):HV:=.int .i64 x
theorem Vs:KF ik:=⟨fun a b=>by simp only [zI];by_cases h:a=b<;>simp [h]⟩
section
variable {P:Program} {C:CallSpec} {all r:List HOper} {i:Nat} {k:List HI} {rs:List Nat} {K:HV->Prop} {sl st sl' st':List (Nat×HV)} {nx:Nat}
variable {x y z:HX} {t:Nat} {u v w w' zz kx T:HV} {kk:KK} {b ok':Bool} {cs ks:List HV} {m:MK} {n id off sz:Nat} {path:List Nat}
theorem mX [ok:Ok C k] {fr:Nat} (hf:nx+stride*i=fr) (h:G P C all r (i+1) k rs K ((t,.mref fr [])::sl) ((fr,.omap ⟨kk,none⟩ [] [])::st) nx):G P C all (⟨some t,.mkmap kk,none⟩::r) i k rs K sl st nx:=by
 subst hf
 exact dM ok.mono ok.plain (v:=.mref _ []) (us:=[.put _ (.omap ⟨kk,none⟩ [] [])]) (side:=True) rfl rfl rfl trivial rfl h
theorem yw [ok:Ok C k] (hx:ev sl x=.nilm) (hk:ev sl y=kx) (hg:dB kk kx=true) (hv:okV ok' zz false=v) (h:G P C all r (i+1) k rs K ((t,v)::sl) st nx):G P C all (⟨some t,.mlook ok' kk zz x y,none⟩::r) i k rs K sl st nx :=
 dM ok.mono ok.plain (v:=v) (us:=[]) (side:=dB kk kx=true) rfl (by rw [HOp.map,hx,hk]) (by subst hv;rfl) hg rfl h
theorem xP [ok:Ok C k] (hx:ev sl x=.rmap m ks cs) (hk:ev sl y=kx) (hg:m.kind=kk/\dB kk kx=true) (hm:Fg ks cs zz kx=(w,b)) (hv:okV ok' w b=v) (h:G P C all r (i+1) k rs K ((t,v)::sl) st nx):G P C all (⟨some t,.mlook ok' kk zz x y,none⟩::r) i k rs K sl st nx:=by
 refine dM ok.mono ok.plain (v:=v) (us:=[]) (side:=m.kind=kk/\dB kk kx=true) rfl (by rw [HOp.map,hx,hk]) ?_ hg rfl h
 subst hv
 unfold Fg at hm
 cases hf:dN kx ks<;>rw [hf] at hm<;>simp only [jg] at hm<;>obtain ⟨rfl,rfl⟩:=hm<;>simp only [ah,hf]
theorem mf [ok:Ok C k] (hx:ev sl x=.mref id path) (hu:au id st=u) (hn:ax u path=.omap m ks cs) (hk:ev sl y=kx) (hg:m.kind=kk/\dB kk kx=true) (hm:o6 id path ks cs zz kx=(w,b)) (hv:okV ok' w b=v) (h:G P C all r (i+1) k rs K ((t,v)::sl) st nx):G P C all (⟨some t,.mlook ok' kk zz x y,none⟩::r) i k rs K sl st nx:=by
 refine dM ok.mono ok.plain (v:=v) (us:=[]) (side:=m.kind=kk/\dB kk kx=true) rfl (by rw [HOp.map,hx,hk]) ?_ hg rfl h
 subst hv hu
 unfold o6 at hm
 cases hf:dN kx ks<;>rw [hf] at hm<;>simp only [jg] at hm<;>obtain ⟨rfl,rfl⟩:=hm<;>simp only [ah,hn,hf]
theorem jY [ok:Ok C k] {us:List Upd} {sd:Prop} (hx:ev sl x=.mref id path) (hk:ev sl y=kx) (hy:ev sl z=w) (ht:takeC (fun j=>au j st) w=(w',us,sd)) (hs:sd) (hu0:Lk.upd (fun j=>au j st) us id=u) (hn:ax u path=.omap m ks cs) (hg:m.kind=kk/\dB kk kx=true) (hp:zM m ks cs kx w'=T) (hse:dh T u path=v)
  (hu:tV sl st (us++[.kill id path.length]++[.put id v])=(sl',st')) (h:G P C all r (i+1) k rs K sl' st' nx):G P C all (⟨none,.mset kk x y z,none⟩::r) i k rs K sl st nx:=by
 subst hse hp hu0
 refine dM ok.mono ok.plain (v:=.dead) (us:=us++[.kill id path.length]++[.put id (dh (zM m ks cs kx w') (Lk.upd (fun j=>au j st) us id) path)]) (side:=sd/\m.kind=kk/\dB kk kx=true) rfl (by rw [HOp.map,hx,hk,hy]) ?_ ⟨hs,hg⟩ (by rw [hu];rfl) h
 simp only [ah,ht,hn]
theorem mM [ok:Ok C k] (hx:ev sl x=.nilm) (h:G P C all r (i+1) k rs K ((t,.int .i64 0)::sl) st nx):G P C all (⟨some t,.mlen x,none⟩::r) i k rs K sl st nx :=
 dM ok.mono ok.plain (v:=.int .i64 0) (us:=[]) (side:=True) rfl (by rw [HOp.map,hx]) rfl trivial rfl h
theorem mJ [ok:Ok C k] {n:Nat} (hx:ev sl x=.rmap m ks cs) (hn:ks.length=n) (h:G P C all r (i+1) k rs K ((t,.int .i64 (n:Int))::sl) st nx):G P C all (⟨some t,.mlen x,none⟩::r) i k rs K sl st nx:=by
 subst hn
 exact dM ok.mono ok.plain (v:=.int .i64 ks.length) (us:=[]) (side:=True) rfl (by rw [HOp.map,hx]) rfl trivial rfl h
theorem mV [ok:Ok C k] {n:Nat} (hx:ev sl x=.mref id path) (hu:au id st=u) (hn:ax u path=.omap m ks cs) (hl:ks.length=n) (h:G P C all r (i+1) k rs K ((t,.int .i64 (n:Int))::sl) st nx):G P C all (⟨some t,.mlen x,none⟩::r) i k rs K sl st nx:=by
 subst hl hu
 exact dM ok.mono ok.plain (v:=.int .i64 ks.length) (us:=[]) (side:=True) rfl (by rw [HOp.map,hx]) (by simp only [ah,hn]) trivial rfl h
theorem mZ [ok:Ok C k] (hx:ev sl x=.nilm) (h:G P C all r (i+1) k rs K ((t,.bool (!b))::sl) st nx):G P C all (⟨some t,.mnil b x,none⟩::r) i k rs K sl st nx :=
 dM ok.mono ok.plain (v:=.bool (!b)) (us:=[]) (side:=True) rfl (by rw [HOp.map,hx]) rfl trivial rfl h
theorem mQ [ok:Ok C k] (hx:ev sl x=.rmap m ks cs) (h:G P C all r (i+1) k rs K ((t,.bool b)::sl) st nx):G P C all (⟨some t,.mnil b x,none⟩::r) i k rs K sl st nx :=
 dM ok.mono ok.plain (v:=.bool b) (us:=[]) (side:=True) rfl (by rw [HOp.map,hx]) rfl trivial rfl h
theorem lu [ok:Ok C k] (hx:ev sl x=.mref id path) (hu:au id st=u) (hn:ax u path=.omap m ks cs) (h:G P C all r (i+1) k rs K ((t,.bool b)::sl) st nx):G P C all (⟨some t,.mnil b x,none⟩::r) i k rs K sl st nx:=by
 subst hu
 exact dM ok.mono ok.plain (v:=.bool b) (us:=[]) (side:=True) rfl (by rw [HOp.map,hx]) (by simp only [ah,hn]) trivial rfl h
theorem wE [ok:Ok C k] {ns:List Int} {sz2 n2:Nat} (hx:ev sl x=.ref id path sz off n) (hu:au id st=u) (hn:ax u path=.osl sz2 n2 cs) (hb:bytesOf (win cs off n)=some ns) (hz:sz=1) (hl:off+n<=cs.length) (h:G P C all r (i+1) k rs K ((t,.str (F8 ns))::sl) st nx):G P C all (⟨some t,.tostr x,none⟩::r) i k rs K sl st nx:=by
 subst hu
 exact dM ok.mono ok.plain (v:=.str (F8 ns)) (us:=[]) (side:=True/\sz=1/\off+n<=cs.length) rfl (by rw [HOp.map,hx]) (by simp only [ah,hn,strOf,hb]) ⟨trivial,hz,hl⟩ rfl h
theorem bytesOf_map (ns:List Int):bytesOf (ns.map (HV.int .u8))=some ns:=by
 induction ns with
 | nil=>rfl
 | cons n ns ih=>simp [bytesOf,ih]
theorem acf [ok:Ok (HS P) k] {fr:Nat} (hf:nx+stride*i=fr) (hx:ev sl x=.mref id path) (hu:au id st=u) (hn:ax u path=.omap m ks cs)
  (h:∀k0 bs ck,bs.length=ks.length->bs.Nodup->(∀b∈bs,b<ck)->G P (HS P) all r (i+1) k rs K ((t,.mref fr [])::sl) ((fr,.oitr (k0+1) ck [] ck)::(id,dh (.omap ⟨m.kind,some (k0,bs,ck)⟩ ks cs) u path)::st) nx):G P (HS P) all (⟨some t,.mrng x,none⟩::r) i k rs K sl st nx:=by
 subst hf hu
 refine zD (V4 (s:=⟨sl,st,nx⟩) hx hn fun k0 bs ck h1 h2 h3=>?_)
 refine lS ok.mono ok.plain ?_ (h k0 bs ck h1 h2 h3)
 refine ⟨?_,?_,rfl⟩
 ·funext j;simp only [St.S,St.put,St.upd,au,iq]
 ·funext j;simp only [St.M,St.put,St.upd,au,iq]
theorem Z4 [ok:Ok (HS P) k] {fr:Nat} (hf:nx+stride*i=fr) (hx:ev sl x=.nilm) (h:G P (HS P) all r (i+1) k rs K ((t,.mref fr [])::sl) ((fr,.oitr 0 0 [] 0)::st) nx):G P (HS P) all (⟨some t,.mrng x,none⟩::r) i k rs K sl st nx:=by
 subst hf
 refine zD (UO (s:=⟨sl,st,nx⟩) hx ?_)
 refine lS ok.mono ok.plain ?_ h
 refine ⟨?_,?_,rfl⟩
 ·funext j;simp only [St.S,St.put,St.upd,au,iq]
 ·funext j;simp only [St.M,St.put,St.upd,au,iq]
theorem aaX [ok:Ok (HS P) k] {iid k0 since last ck:Nat} {seen bs:List Nat} {kd:KK} (hx:ev sl x=.mref iid []) (hit:au iid st=.oitr (k0+1) since seen last) (hu:au id st=u) (hp:path.length<=2) (hn:ax u path=.omap ⟨kd,some (k0,bs,ck)⟩ ks cs) (hold:∀b∈bs,b<since) (hsc:since<=last)
  (hdone:(∀b∈bs,b∈seen)->G P (HS P) all r (i+1) k rs K ((t,.tup [.bool false])::sl) st nx)
  (hmore:∀j,j<ks.length->j<cs.length->bs.getD j 0 ∉ seen->G P (HS P) all r (i+1) k rs K ((t,.tup [.bool true,ks.getD j .dead,look id path j (cs.getD j .dead)])::sl) ((iid,.oitr (k0+1) since (seen++[bs.getD j 0]) ck)::st) nx):G P (HS P) all (⟨some t,.mnxt x,none⟩::r) i k rs K sl st nx:=by
 subst hu
 refine zD (Vl (s:=⟨sl,st,nx⟩) hx hit hp hn hold hsc (fun hd=>?_) fun j h1 h2 h3=>?_)
 ·refine lS ok.mono ok.plain ?_ (hdone hd)
  refine ⟨?_,?_,rfl⟩
  ·funext j;simp only [St.S,St.put,au,iq]
  ·rfl
 ·refine lS ok.mono ok.plain ?_ (hmore j h1 h2 h3)
  refine ⟨?_,?_,rfl⟩
  ·funext j;simp only [St.S,St.put,St.upd,au,iq]
  ·funext j;simp only [St.M,St.put,St.upd,au,iq]
theorem YP [ok:Ok (HS P) k] {iid since last:Nat} {seen:List Nat} (hx:ev sl x=.mref iid []) (hit:au iid st=.oitr 0 since seen last) (h:G P (HS P) all r (i+1) k rs K ((t,.tup [.bool false])::sl) st nx):G P (HS P) all (⟨some t,.mnxt x,none⟩::r) i k rs K sl st nx:=by
 refine zD (UV (s:=⟨sl,st,nx⟩) hx hit ?_)
 refine lS ok.mono ok.plain ?_ h
 refine ⟨?_,rfl,rfl⟩
 funext j;simp only [St.S,St.put,au,iq]
theorem abd [ok:Ok (HS P) k] {iid k0 since ck j:Nat} {seen bs:List Nat} {kd:KK} (hx:ev sl x=.mref iid []) (hit:au iid st=.oitr (k0+1) since (seen++[bs.getD j 0]) ck) (hu:au id st=u) (hp:path.length<=2) (hn:ax u path=.omap ⟨kd,some (k0,bs,ck)⟩ ks cs) (hj:j<ks.length)
  (hv:HV.tup [ks.getD j .dead,look id path j (cs.getD j .dead)]=v) (h:G P (HS P) all r (i+1) k rs K ((t,v)::sl) st nx):G P (HS P) all (⟨some t,.ment x,none⟩::r) i k rs K sl st nx:=by
 subst hu hv
 refine zD (V9 (s:=⟨sl,st,nx⟩) hx hit hp hn hj ?_)
 refine lS ok.mono ok.plain ?_ h
 refine ⟨?_,rfl,rfl⟩
 funext j;simp only [St.S,St.put,au,iq]
end
theorem bP {p:Prop} (h:p:=by (try simp only [go_sem,reduceIte,Nat.reduceEqDiff,Nat.reduceAdd,Nat.reduceMul]);try rfl):p:=h
theorem IB {p:Prop} (h:p:=by simp only [unpack,aS,List.append_nil,List.nil_append,List.cons_append,stride,Nat.reduceAdd,Nat.reduceMul,Nat.zero_add];try rfl):p:=h
theorem zT5 {p:Prop} (h:p:=by simp only [aB,takeD,takeC,au,Lk.upd,if_true,if_false,reduceIte,Nat.reduceEqDiff,List.append_nil,List.nil_append];try rfl):p:=h
theorem DR {p:Prop} (h:p:=by first|exact ltT (by omega)|exact ltF (by omega)|rfl):p:=h
theorem OM {p:Prop} (h:p:=by first|trivial|(refine ⟨?_,?_⟩<;>trivial)|(simp only [and_true,true_and];done)):p:=h
theorem rU {p:Prop} (h:p:=by (try simp (disch:=omega) only [au,go_sem,reduceIte,Nat.reduceEqDiff,Nat.reduceAdd,Nat.reduceMul]);try rfl):p:=h
theorem jS {p:Prop} (h:p:=by (try simp (disch:=omega) only [go_sem,Int.reduceAdd,Int.reduceSub,Int.reduceMul]);try rfl):p:=h
theorem Aw {p:Prop} (h:p:=by simp only [aB,takeD,takeC,au,Lk.upd,if_true,if_false,reduceIte,Nat.reduceEqDiff,List.append_nil,List.nil_append,List.cons_append];try rfl):p:=h
theorem DI {p:Prop} (h:p:=by simp only [tV,Ae,kills,nJ,List.zip_cons_cons,List.zip_nil_right,dP,uG,HV.kill,tK,List.length_nil,List.length_cons,Nat.reduceEqDiff,Nat.reduceLT,Nat.lt_irrefl,Nat.reduceAdd,if_true,if_false,reduceIte,and_true,true_and,and_false,false_and,and_self,reduceCtorEq,List.append_nil,List.nil_append,List.cons_append];try rfl):p:=h
theorem af {p:Prop} (h:p:=by first|exact eI rfl|exact eB rfl|exact eR rfl|exact eS rfl|exact eP rfl|exact eT rfl|exact eA rfl|exact eN rfl|exact eQ rfl|exact eF rfl|exact eD rfl|exact eM rfl|exact eK rfl|exact eV rfl|exact eX rfl|exact eL rfl):p:=h
theorem aG {p:Prop} (h:p:=by (try simp only [dP,uG]);repeat (first|(apply eL1;· exact af)|rfl)):p:=h
theorem bz {p:Prop} (h:p:=by simp (disch:=omega) only [cZ,HV.thaw,bM,au,ax,if_true,if_false,reduceIte,Nat.reduceEqDiff,stripL,HV.strip,zZ,xA,Nat.mul_one,List.cons_append,List.nil_append,List.append_nil,I,Bl,T3,List.getD_cons_zero,List.getD_cons_succ,HL.ints_strip,HL.bools_strip,Bz];try rfl):p:=h
theorem iL {p:Prop} (h:p:=by simp only [tV,List.cons_append,List.nil_append,List.append_nil,dP,uG,HV.kill,tK,List.length_nil,List.length_cons,Nat.reduceEqDiff,Nat.reduceLT,Nat.reduceAdd,if_true,if_false,reduceIte,and_true,true_and,and_false,false_and,and_self,reduceCtorEq,Nat.lt_irrefl];try rfl):p:=h
theorem ak {p:Prop} (h:p:=by (try simp only [go_sem]);try rfl):p:=h
theorem az {p:Prop} (h:p:=by (try simp only [go_sem]);first|omega|decide):p:=h
theorem dK {p:Prop} (h:p:=by first|rfl|exact HL.ints_flat _|exact HL.bools_flat _):p:=h
theorem jI {p:Prop} (h:p:=by simp only [fQ,takeC,au,Lk.upd,if_true,if_false,reduceIte,Nat.reduceEqDiff,List.append_nil,List.nil_append,List.cons_append];try rfl):p:=h
theorem iC {p:Prop} (h:p:=by (try simp (disch:=omega) only [go_sem,reduceIte,Nat.reduceEqDiff,Nat.reduceAdd,Nat.reduceMul]);try rfl):p:=h
theorem iV {p:Prop} (h:p:=by (try simp (disch:=omega) only [go_sem,reduceIte,Nat.reduceEqDiff,Nat.reduceAdd,Nat.reduceMul,zf]);try rfl):p:=h
theorem gU {p:Prop} (h:p:=by simp only [takeC,au,Lk.upd,if_true,if_false,reduceIte,Nat.reduceEqDiff];try rfl):p:=h
theorem bD {p:Prop} (h:p:=by first|exact eO rfl|exact eW rfl):p:=h
theorem kD {p:Prop} (h:p:=by (try simp (disch:=omega) only [go_sem,Int.reduceAdd,Int.reduceSub,Int.reduceMul,zf]);try rfl):p:=h
theorem aA {p:Prop} (h:p:=by kernel_rfl):p:=h
theorem kM {p:Prop} (h:p:=by first|exact leT (by omega)|exact leF (by omega)|rfl):p:=h
theorem wY {p:Prop} (h:p:=by simp only [Lk.upd,au,if_true,if_false,reduceIte,Nat.reduceEqDiff,reduceCtorEq];try rfl):p:=h
theorem yA {p:Prop} (h:p:=by (try simp only [dP,uG]);repeat (first|(apply eP1;· exact af)|rfl)):p:=h
theorem xZ {p:Prop} (h:p:=by simp only [qI,setFrom,cellsOf,List.set_cons_zero,List.set_cons_succ];try rfl):p:=h
theorem Cf {p:Prop} (h:p:=by (try simp (disch:=omega) only [go_sem,reduceIte,Nat.reduceEqDiff,Nat.reduceAdd,Nat.reduceMul]);try omega):p:=h
theorem oQ {p:Prop} (h:p:=by (try simp (disch:=omega) only [go_sem]);try rfl):p:=h
theorem G6 {p:Prop} (h:p:=by (try simp only [dP,uG,List.cons_append,List.nil_append]);repeat (first|(apply eL1;· exact af)|rfl)):p:=h
theorem uA {p:Prop} (h:p:=by first|exact eqT (by omega)|exact eqF (by omega)|rfl):p:=h
theorem uQ {p:Prop} (h:p:=by first|exact neF (by omega)|exact neT (by omega)|rfl):p:=h
theorem gz {p:Prop} (h:p:=by unfold maxLen;omega):p:=h
theorem dm {p:Prop} (h:p:=by exact eY rfl):p:=h
theorem uI {p:Prop} (h:p:=by first|trivial|(refine ⟨?_,?_⟩<;>trivial)):p:=h
theorem Ja {p:Prop} (h:p:=by (try simp (disch:=omega) only [List.length_map,go_sem,reduceIte,Nat.reduceEqDiff,Nat.reduceAdd,Nat.reduceMul]);try rfl):p:=h
theorem II {p:Prop} (h:p:=by (try simp (disch:=omega) only [go_sem,reduceIte,Nat.reduceEqDiff,Nat.reduceAdd,Nat.reduceMul,zf]);try omega):p:=h
theorem yl {p:Prop} (h:p:=by first|exact ⟨rfl,rfl,rfl,rfl⟩|decide):p:=h
theorem iQ {p:Prop} (h:p:=by simp only;omega):p:=h
theorem wF {p:Prop} (h:p:=by first|exact Nat.zero_lt_one|decide):p:=h
theorem zC {p:Prop} (h:p:=by (try simp only [go_sem,reduceIte]);try rfl):p:=h
theorem x9 {p:Prop} (h:p:=by simp [BV,ES,cellV]):p:=h
theorem QM {p:Prop} (h:p:=by (try simp (disch:=omega) only [List.length_map,go_sem,reduceIte,Nat.reduceEqDiff,Nat.reduceAdd,Nat.reduceMul,zf]);try rfl):p:=h
theorem EW {p:Prop} (h:p:=by (try simp (disch:=omega) only [go_sem,zf]);try rfl):p:=h
theorem aaG {p:Prop} (h:p:=by simp (disch:=omega) only [cZ,I,HV.thaw,bM,au,ax,if_true,if_false,reduceIte,Nat.reduceEqDiff,stripL,HV.strip,zZ,xA,Nat.mul_one,List.cons_append,List.nil_append,List.append_nil,I,Bl,T3,List.getD_cons_zero,List.getD_cons_succ,HL.ints_strip,HL.bools_strip,Bz];try rfl):p:=h
end Go.HL
end
