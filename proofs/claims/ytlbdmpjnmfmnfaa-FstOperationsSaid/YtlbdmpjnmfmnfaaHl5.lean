import Derived.Test.YtlbdmpjnmfmnfaaHl4
import Derived.Maps.RangeRun
set_option linter.unusedSimpArgs false
set_option linter.unusedVariables false
section
namespace Go.HL
def sorted:List (Nat×HV)->Bool
 | []=>true
 | (k,_)::r=>(match r with|[]=>true|(k2,_)::_=>decide (k<k2))&&sorted r
theorem AU {p:Nat->Prop} (h:∃m,p m):∃m,p m/\∀k,p k->m<=k:=by
 obtain ⟨m,hm⟩:=h
 induction m using Nat.strongRecOn with
 | _ m ih =>
  by_cases h:∃k,k<m/\p k
  ·obtain ⟨k,h1,h2⟩:=h;exact ih k h1 h2
  ·exact ⟨m,hm,fun k hk=>by
    rcases iE k m with h1|h1
    ·exact absurd ⟨k,h1,hk⟩ h
    ·exact h1⟩
abbrev Tbl:=List (FuncId×HCode×List Nat×Nat)
def tblOK (P:Program) (tbl:Tbl):Prop:=∀e∈tbl,bz P e.1=some e.2
theorem tblOK.nil {P:Program}:tblOK P []:=by intro e h;cases h
theorem tblOK.cons {P:Program} {f c rs T} {tbl:Tbl} (h:bz P f=some (c,rs,T)) (h2:tblOK P tbl):tblOK P ((f,c,rs,T)::tbl):=by
 intro e he
 rcases zl011.1 he with rfl|he
 ·exact h
 ·exact h2 e he
mutual
def HV.eqb:HV->HV->Bool
 | .int k n,.int k' n'=>decide (k=k')&&decide (n=n')
 | .bool b,.bool b'=>b==b'
 | .nils,.nils=>true
 | .nilp,.nilp=>true
 | .nilf,.nilf=>true
 | .sl n cs,.sl n' cs'=>decide (n=n')&&Ux cs cs'
 | .ptr cs o,.ptr cs' o'=>decide (o=o')&&Ux cs cs'
 | .agg cs,.agg cs'=>Ux cs cs'
 | .tup cs,.tup cs'=>Ux cs cs'
 | .fn f cs,.fn f' cs'=>decide (f=f')&&Ux cs cs'
 | _,_=>false
def Ux:List HV->List HV->Bool
 | [],[]=>true
 | a::r,b::q=>HV.eqb a b&&Ux r q
 | _,_=>false
end
abbrev aeR:=List (FuncId×List HV×HV)
def memoOK (P:Program) (m:aeR):Prop:=∀e∈m,HT P e.1 e.2.1 (·=e.2.2)
theorem memoOK.nil {P:Program}:memoOK P []:=by intro e h;cases h
theorem memoOK.cons {P:Program} {f:FuncId} {a:List HV} {v:HV} {m:aeR} (h:HT P f a (·=v)) (h2:memoOK P m):memoOK P ((f,a,v)::m):=by
 intro e he
 rcases zl011.1 he with rfl|he
 ·exact h
 ·exact h2 e he
end Go.HL
end
section
namespace Go.HL
open Go.RowKit
def Eqv (s s':St):Prop:=s.S=s'.S/\s.M=s'.M/\s.nx=s'.nx
theorem Eqv.refl (s:St):Eqv s s:=⟨rfl,rfl,rfl⟩
theorem Eqv.symm {s s':St} (h:Eqv s s'):Eqv s' s:=⟨h.1.symm,h.2.1.symm,h.2.2.symm⟩
theorem Eqv.upd {s s':St} (h:Eqv s s') (us:List Upd) (d:Option Nat) (v:HV):Eqv ((s.upd us).put d v) ((s'.upd us).put d v):=by
 refine ⟨?_,?_,?_⟩
 ·rw [St.put_S,St.put_S,St.upd_S,St.upd_S,h.1]
 ·rw [St.put_M,St.put_M,St.upd_M,St.upd_M,h.2.1]
 ·rw [St.put_nx,St.put_nx,St.upd_nx,St.upd_nx,h.2.2]
theorem Eqv.put {s s':St} (h:Eqv s s') (d:Option Nat) (v:HV):Eqv (s.put d v) (s'.put d v):=h.upd [] d v
theorem Eqv.weak {s s' s2:St} (h:Eqv s s') (hw:Weak s s2):Weak s' s2:=by
 intro E a w hr
 refine hw E a w ?_
 obtain ⟨h1,h2,h3⟩:=h
 unfold SRel at *
 rw [h1,h2,h3]
 exact hr
theorem Tv {C:CallSpec} (hC:zY C) {s s':St} {i:Nat} {o:af} {K K':St->Prop} (he:Eqv s s') (hK:∀t t',Eqv t t'->K t->K' t') (h:hop C s i o K):hop C s' i o K':=by
 rcases h with h|h
 ·refine .inl ?_
  unfold hop0 at *
  have e1:ev s'.sl=ev s.sl:=by rw [jl,jl,he.1]
  have e2:(fun i=>ax i s'.st)=fun i=>ax i s.st:=he.2.1.symm
  rw [e1,e2,<- he.2.2]
  split at h
  ·exact hC.ap _ _ _ _ h fun r hr=>⟨hr.1,hr.2.1,hK _ _ (he.upd _ _ _) hr.2.2⟩
  ·exact hC.ap _ _ _ _ h fun r hr=>⟨hr.1,hr.2.1,hK _ _ (he.upd _ _ _) hr.2.2⟩
  ·exact ⟨h.1,hK _ _ (he.upd _ _ _) h.2⟩
 ·exact .inr (hC.eqv _ _ _ _ _ _ he.1 he.2.1 he.2.2 (hC.sem _ _ _ _ _ _ h fun t ht=>hK _ _ (Eqv.refl t) ht))
theorem VV {C:CallSpec} (hC:zY C) {all:List af} {K:St->Prop} (hK:∀s s',Eqv s s'->K s->K s'):∀ {r:List af} {i:Nat} {s s':St},Eqv s s'->hops C all r i K s->hops C all r i K s':=by
 intro r
 induction r with
 | nil=>intro i s s' he h;exact hK _ _ he h
 | cons o r ih =>
  intro i s s' he h
  have ed:(fun d=>ax d s'.sl)=fun d=>ax d s.sl:=he.1.symm
  simp only [hops] at h ⊢
  rw [ed]
  split at h
  ·exact Tv hC he (fun t t' ht hh=>ih ht hh) h
  ·split at h
   ·exact ⟨fun hb=>Tv hC he (fun t t' ht hh=>ih ht hh) (h.1 hb),fun hb=>ih (he.put o.dst (.tup [])) (h.2 hb)⟩
   ·exact ih (he.put o.dst (.tup [])) h
   ·exact h
def yA:List HI->Bool
 | []=>true
 | .o ..::_=>false
 | .c _::k=>yA k
 | .b _::k=>yA k
 | .l ..::k=>yA k
theorem Ru {rs:List Nat} {K:HV->Prop} {e:HE} {s s':St} (he:Eqv s s') (h:finish rs K e s):finish rs K e s':=by
 have e1:∀r,ax r s'.sl=ax r s.sl:=fun r=>congrFun he.1.symm r
 have e2:(rs.map fun r=>ax r s'.sl)=rs.map fun r=>ax r s.sl:=by simp only [e1]
 unfold finish at *
 cases e with
 | normal=>simp only at h ⊢;rw [e2,<- he.2.1];exact h
 | ret=>simp only at h ⊢;rw [e2,<- he.2.1];exact h
 | exit i=>exact h
theorem LW {P:Program} {rs:List Nat} {K:HV->Prop} {k:List HI} (hp:yA k=true):∀ {e:HE} {s s':St},Eqv s s'->hk P k (finish rs K) e s->hk P k (finish rs K) e s':=by
 induction k with
 | nil=>intro e s s' he h;exact Ru he h
 | cons a k ih =>
  intro e s s' he h
  cases a with
  | c x =>
   cases e with
   | normal=>obtain ⟨s1,hw,h1⟩:=h;exact ⟨s1,he.weak hw,h1⟩
   | exit i=>exact ih hp he h
   | ret=>exact ih hp he h
  | b id =>
   cases e with
   | normal=>exact ih hp he h
   | exit i =>
    simp only [hk] at h ⊢
    split
    ·rename_i hi;rw [if_pos hi] at h;exact ih hp he h
    ·rename_i hi;rw [if_neg hi] at h;exact ih hp he h
   | ret=>exact ih hp he h
  | o=>cases hp
  | l I μ m =>
   cases e with
   | normal=>obtain ⟨s1,hw,h1⟩:=h;exact ⟨s1,he.weak hw,h1⟩
   | exit i=>exact ih hp he h
   | ret=>exact ih hp he h
section
variable {P:Program} {C:CallSpec} {all r:List af} {i:Nat} {k:List HI} {rs:List Nat} {K:HV->Prop}
theorem kL (hC:zY C) (hp:yA k=true) {s s':St} (he:Eqv s s') (h:hx P (.o C all r i::k) (finish rs K) s):hx P (.o C all r i::k) (finish rs K) s':=by
 unfold hx hk at *
 exact VV hC (fun a b hab hh=>LW hp (s:={ a with nx:=a.nx+stride*all.length }) (s':={ b with nx:=b.nx+stride*all.length }) ⟨hab.1,hab.2.1,congrArg (fun n=>n+stride*all.length) hab.2.2⟩ hh) he h
def uT (sl st:List (Nat×HV)):List Upd->List (Nat×HV)×List (Nat×HV)
 | []=>(sl,st)
 | .put id t::r=>uT sl ((id,t)::st) r
 | .kill id len::r=>uT (sl.map fun p=>(p.1,p.2.kill id len)) st r
def Bz (d:Option Nat) (v:HV) (x:List (Nat×HV)×List (Nat×HV)):List (Nat×HV)×List (Nat×HV) :=
 match d with
 | none=>x
 | some d=>((d,v)::x.1,x.2)
theorem DL (t d:Nat) (v:HV) (l:List (Nat×HV)):ax t ((d,v)::l)=ax t (tZ d v l):=by rw [fA];rfl
theorem aal (us:List Upd):∀ (sl st:List (Nat×HV)) (nx:Nat) (s:St),Eqv s ⟨sl,st,nx⟩->Eqv (s.upd us) ⟨(uT sl st us).1,(uT sl st us).2,nx⟩:=by
 induction us with
 | nil=>intro sl st nx s h;exact h
 | cons u us ih =>
  intro sl st nx s h
  cases u with
  | put id t =>
   refine ih sl ((id,t)::st) nx _ ⟨h.1,?_,h.2.2⟩
   funext j
   have:ax j s.st=ax j st:=congrFun h.2.1 j
   show ax j (tZ id t s.st)=_
   rw [fA]
   show _=ax j ((id,t)::st)
   simp only [ax,this]
  | kill id len =>
   refine ih _ st nx _ ⟨?_,h.2.1,h.2.2⟩
   funext j
   have:ax j s.sl=ax j sl:=congrFun h.1 j
   show ax j (s.sl.map _)=ax j (sl.map _)
   rw [qK,qK,this]
theorem nV {d:Option Nat} {v:HV} {us:List Upd} {sl st sl' st':List (Nat×HV)} {nx:Nat} (h:Bz d v (uT sl st us)=(sl',st')):Eqv ⟨sl',st',nx⟩ ((St.upd ⟨sl,st,nx⟩ us).put d v):=by
 have h1:=aal us sl st nx ⟨sl,st,nx⟩ (Eqv.refl _)
 cases d with
 | none =>
  simp only [Bz] at h
  rw [h] at h1
  exact h1.symm
 | some d =>
  simp only [Bz,jR] at h
  obtain ⟨rfl,rfl⟩:=h
  refine Eqv.symm ⟨?_,?_,?_⟩
  ·rw [St.put_S]
   funext t
   have:=congrFun h1.1 t
   show (if some d=some t then v else _)=ax t ((d,v)::_)
   simp only [cO,ax]
   split
   ·rfl
   ·exact this
  ·rw [St.put_M];exact h1.2.1
  ·rw [St.put_nx];exact h1.2.2
variable {sl sl' st st':List (Nat×HV)} {nx:Nat} {d:Option Nat}
theorem eU (hC:zY C) (hp:yA k=true) {op:HOp HX} {op':HOp HV} {v:HV} {us:List Upd} {side:Prop} (hnc:op.isCall=false) (ho:op.map (ev sl)=op') (h0:ak (fun j=>ax j st) (nx+stride*i) op'=(v,us,side)) (hs:side)
  (hu:Bz d v (uT sl st us)=(sl',st')) (h:hx P (.o C all r (i+1)::k) (finish rs K) ⟨sl',st',nx⟩):hx P (.o C all (⟨d,op,none⟩::r) i::k) (finish rs K) ⟨sl,st,nx⟩:=by
 refine aen hnc ?_
 subst ho
 have e:(fun j=>ax j st)=St.M ⟨sl,st,nx⟩:=rfl
 rw [e] at h0
 simp only
 rw [h0]
 exact ⟨hs,kL hC hp (nV hu) h⟩
class acf (C:CallSpec):Prop where
 mono:zY C
instance:acf (HS P):=⟨HT.cmono P⟩
instance {D:FuncId->List HV->HV->Prop}:acf (CS P D):=⟨CS.cmono P D⟩
class Plain (k:List HI):Prop where
 plain:yA k=true
instance:Plain []:=⟨rfl⟩
instance {x:HCode} {k:List HI} [h:Plain k]:Plain (.c x::k):=⟨h.plain⟩
instance {id:Nat} {k:List HI} [h:Plain k]:Plain (.b id::k):=⟨h.plain⟩
instance {I:St->Prop} {μ:St->Nat} {m:Nat} {k:List HI} [h:Plain k]:Plain (.l I μ m::k):=⟨h.plain⟩
class Ok (C:CallSpec) (k:List HI):Prop where
 mono:zY C
 plain:yA k=true
instance [h:acf C] [h2:Plain k]:Ok C k:=⟨h.mono,h2.plain⟩
theorem eI {v:HV} {k:IntKind} {n:Int} (h:v=.int k n):v=.int k n:=h
theorem eB {v:HV} {b:Bool} (h:v=.bool b):v=.bool b:=h
theorem eR {v:HV} {id:Nat} {p:List Nat} {sz off n:Nat} (h:v=.ref id p sz off n):v=.ref id p sz off n:=h
theorem eS {v:HV} {n:Nat} {cs:List HV} (h:v=.sl n cs):v=.sl n cs:=h
theorem eP {v:HV} {id:Nat} {p:List Nat} {off:Nat} (h:v=.pref id p off):v=.pref id p off:=h
theorem eQ {v:HV} {cs:List HV} {off:Nat} (h:v=.ptr cs off):v=.ptr cs off:=h
theorem eT {v:HV} {cs:List HV} (h:v=.tup cs):v=.tup cs:=h
theorem eA {v:HV} {cs:List HV} (h:v=.agg cs):v=.agg cs:=h
theorem eN {v:HV} (h:v=.nils):v=.nils:=h
theorem eF {v:HV} {f:FuncId} {cs:List HV} (h:v=.fn f cs):v=.fn f cs:=h
theorem eO {v:HV} {sz n:Nat} {cs:List HV} (h:v=.osl sz n cs):v=.osl sz n cs:=h
theorem eW {v:HV} {cs:List HV} (h:v=.optr cs):v=.optr cs:=h
theorem eL {v:HV} (h:v=.nilp):v=.nilp:=h
theorem eX {v:HV} {s:ByteArray} (h:v=.str s):v=.str s:=h
theorem eD {v:HV} (h:v=.dead):v=.dead:=h
theorem ltT {a b:Int} (h:a<b):decide (a<b)=true:=by simpa using h
theorem ltF {a b:Int} (h:¬ a<b):decide (a<b)=false:=by simpa using h
theorem leT {a b:Int} (h:a<=b):decide (a<=b)=true:=by simpa using h
theorem leF {a b:Int} (h:¬ a<=b):decide (a<=b)=false:=by simpa using h
theorem eqT {a b:Int} (h:a=b):(a==b)=true:=by simpa using h
theorem eqF {a b:Int} (h:¬ a=b):(a==b)=false:=by simpa using h
theorem neT {a b:Int} (h:¬ a=b):(a != b)=true:=by simpa using h
theorem neF {a b:Int} (h:a=b):(a != b)=false:=by simpa using h
theorem eP1 {a b:Nat} {v w:HV} {l m:List (Nat×Nat×HV)} (h:v=w) (h2:l=m):(a,b,v)::l=(a,b,w)::m:=by rw [h,h2]
theorem eL1 {v w:HV} {l m:List HV} (h:v=w) (h2:l=m):v::l=w::m:=by rw [h,h2]
variable {x y z:HX} {t:Nat} {u v w:HV} {kk:IntKind} {a b c:Int} {p q e:Bool} {cs cs' ws:List HV} {n m o off id sz:Nat} {path:List Nat}
abbrev G (P:Program) (C:CallSpec) (all r:List af) (i:Nat) (k:List HI) (rs:List Nat) (K:HV->Prop) (sl st:List (Nat×HV)) (nx:Nat):Prop:=hx P (.o C all r i::k) (finish rs K) ⟨sl,st,nx⟩
def agz (nz:Nat) (v:HV):Bool :=
 match nz,v with
 | 0,_=>true
 | _+1,.nils=>false
 | _+1,_=>true
def adf:HV->Bool
 | .nils=>true
 | .sl ..=>true
 | .ref ..=>true
 | _=>false
theorem EY [ok:Ok C k] {nz:Nat} (hv:ev sl x=v) (hn:agz nz v=true) (h:G P C all r (i+1) k rs K ((t,v)::sl) st nx):G P C all (⟨some t,.mv nz x,none⟩::r) i k rs K sl st nx :=
 eU ok.mono ok.plain (v:=v) (us:=[]) (side:=True) rfl (by rw [HOp.map,hv]) (by
  cases nz with
  | zero=>cases v<;>rfl
  | succ nz=>cases v<;>first|rfl|cases hn) trivial rfl h
theorem E8 [ok:Ok C k] {nz fr:Nat} (hn:(nz != 0)=true) (hv:ev sl x=.nils) (hf:nx+stride*i=fr) (h:G P C all r (i+1) k rs K ((t,.ref fr [] nz 0 0)::sl) ((fr,.osl nz 0 [])::st) nx):G P C all (⟨some t,.mv nz x,none⟩::r) i k rs K sl st nx:=by
 subst hf
 cases nz with
 | zero=>cases hn
 | succ nz=>exact eU ok.mono ok.plain (us:=[.put (nx+stride*i) (.osl (nz+1) 0 [])]) (side:=True) rfl (by rw [HOp.map,hv]) rfl trivial rfl h
theorem wz [ok:Ok C k] (hc:ev sl x=.bool true) (hv:ev sl y=v) (h:G P C all r (i+1) k rs K ((t,v)::sl) st nx):G P C all (⟨some t,.pick x y z,none⟩::r) i k rs K sl st nx :=
 eU ok.mono ok.plain (v:=v) (us:=[]) (side:=True) rfl (by rw [HOp.map,hc,hv]) (by cases v<;>(try rfl)<;>(cases ev sl z<;>rfl)) trivial rfl h
theorem wV [ok:Ok C k] (hc:ev sl x=.bool false) (hv:ev sl z=v) (h:G P C all r (i+1) k rs K ((t,v)::sl) st nx):G P C all (⟨some t,.pick x y z,none⟩::r) i k rs K sl st nx :=
 eU ok.mono ok.plain (v:=v) (us:=[]) (side:=True) rfl (by rw [HOp.map,hc,hv]) (by cases ev sl y<;>(try rfl)<;>(cases v<;>rfl)) trivial rfl h
theorem C9 [ok:Ok C k] (hx:ev sl x=.int kk a) (hy:ev sl y=.int kk b) (hc:kk.wrap (a+b)=c) (h:G P C all r (i+1) k rs K ((t,.int kk c)::sl) st nx):G P C all (⟨some t,.bin .add x y,none⟩::r) i k rs K sl st nx :=
 eU ok.mono ok.plain (v:=.int kk c) (us:=[]) (side:=kk=kk) rfl (by rw [HOp.map,hx,hy]) (by subst hc;rfl) rfl rfl h
theorem BL [ok:Ok C k] (hx:ev sl x=.int kk a) (hy:ev sl y=.int kk b) (hc:kk.wrap (a - b)=c) (h:G P C all r (i+1) k rs K ((t,.int kk c)::sl) st nx):G P C all (⟨some t,.bin .sub x y,none⟩::r) i k rs K sl st nx :=
 eU ok.mono ok.plain (v:=.int kk c) (us:=[]) (side:=kk=kk) rfl (by rw [HOp.map,hx,hy]) (by subst hc;rfl) rfl rfl h
theorem NH [ok:Ok C k] (hx:ev sl x=.int kk a) (hy:ev sl y=.int kk b) (hc:kk.wrap (a*b)=c) (h:G P C all r (i+1) k rs K ((t,.int kk c)::sl) st nx):G P C all (⟨some t,.bin .mul x y,none⟩::r) i k rs K sl st nx :=
 eU ok.mono ok.plain (v:=.int kk c) (us:=[]) (side:=kk=kk) rfl (by rw [HOp.map,hx,hy]) (by subst hc;rfl) rfl rfl h
theorem OO [ok:Ok C k] (hx:ev sl x=.int kk a) (hy:ev sl y=.int kk b) (hc:kk.wrap (BitVec.ofInt kk.bits a &&& BitVec.ofInt kk.bits b).toNat=c) (h:G P C all r (i+1) k rs K ((t,.int kk c)::sl) st nx):G P C all (⟨some t,.bin .and x y,none⟩::r) i k rs K sl st nx :=
 eU ok.mono ok.plain (v:=.int kk c) (us:=[]) (side:=kk=kk) rfl (by rw [HOp.map,hx,hy]) (by subst hc;rfl) rfl rfl h
theorem Yo [ok:Ok C k] (hx:ev sl x=.int kk a) (hy:ev sl y=.int kk b) (hc:kk.wrap (BitVec.ofInt kk.bits a ||| BitVec.ofInt kk.bits b).toNat=c) (h:G P C all r (i+1) k rs K ((t,.int kk c)::sl) st nx):G P C all (⟨some t,.bin .or x y,none⟩::r) i k rs K sl st nx :=
 eU ok.mono ok.plain (v:=.int kk c) (us:=[]) (side:=kk=kk) rfl (by rw [HOp.map,hx,hy]) (by subst hc;rfl) rfl rfl h
theorem NM [ok:Ok C k] (hx:ev sl x=.int kk a) (hy:ev sl y=.int kk b) (hc:kk.wrap (BitVec.ofInt kk.bits a ^^^ BitVec.ofInt kk.bits b).toNat=c) (h:G P C all r (i+1) k rs K ((t,.int kk c)::sl) st nx):G P C all (⟨some t,.bin .xor x y,none⟩::r) i k rs K sl st nx :=
 eU ok.mono ok.plain (v:=.int kk c) (us:=[]) (side:=kk=kk) rfl (by rw [HOp.map,hx,hy]) (by subst hc;rfl) rfl rfl h
theorem OB [ok:Ok C k] (hx:ev sl x=.int kk a) (hy:ev sl y=.int kk b) (hb:b≠0) (hc:kk.wrap (a.tdiv b)=c) (h:G P C all r (i+1) k rs K ((t,.int kk c)::sl) st nx):G P C all (⟨some t,.bin .quo x y,none⟩::r) i k rs K sl st nx :=
 eU ok.mono ok.plain (v:=.int kk c) (us:=[]) (side:=kk=kk/\b≠0) rfl (by rw [HOp.map,hx,hy]) (by subst hc;rfl) ⟨rfl,hb⟩ rfl h
theorem Hq [ok:Ok C k] (hx:ev sl x=.int kk a) (hy:ev sl y=.int kk b) (hb:b≠0) (hc:a.tmod b=c) (h:G P C all r (i+1) k rs K ((t,.int kk c)::sl) st nx):G P C all (⟨some t,.bin .rem x y,none⟩::r) i k rs K sl st nx :=
 eU ok.mono ok.plain (v:=.int kk c) (us:=[]) (side:=kk=kk/\b≠0) rfl (by rw [HOp.map,hx,hy]) (by subst hc;rfl) ⟨rfl,hb⟩ rfl h
theorem OT [ok:Ok C k] {k2:IntKind} (hx:ev sl x=.int kk a) (hy:ev sl y=.int k2 b) (hb:0<=b) (hc:kk.wrap (a*2 ^ (min b.toNat kk.bits))=c) (h:G P C all r (i+1) k rs K ((t,.int kk c)::sl) st nx):G P C all (⟨some t,.bin .shl x y,none⟩::r) i k rs K sl st nx :=
 eU ok.mono ok.plain (v:=.int kk c) (us:=[]) (side:=0<=b) rfl (by rw [HOp.map,hx,hy]) (by subst hc;rfl) hb rfl h
theorem Oh [ok:Ok C k] {k2:IntKind} (hx:ev sl x=.int kk a) (hy:ev sl y=.int k2 b) (hb:0<=b) (hc:a.fdiv (2 ^ (min b.toNat kk.bits))=c) (h:G P C all r (i+1) k rs K ((t,.int kk c)::sl) st nx):G P C all (⟨some t,.bin .shr x y,none⟩::r) i k rs K sl st nx :=
 eU ok.mono ok.plain (v:=.int kk c) (us:=[]) (side:=0<=b) rfl (by rw [HOp.map,hx,hy]) (by subst hc;rfl) hb rfl h
theorem FV [ok:Ok C k] (hx:ev sl x=.int kk a) (hy:ev sl y=.int kk b) (hc:(a==b)=p) (h:G P C all r (i+1) k rs K ((t,.bool p)::sl) st nx):G P C all (⟨some t,.bin .eql x y,none⟩::r) i k rs K sl st nx :=
 eU ok.mono ok.plain (v:=.bool p) (us:=[]) (side:=kk=kk) rfl (by rw [HOp.map,hx,hy]) (by subst hc;rfl) rfl rfl h
theorem FX [ok:Ok C k] (hx:ev sl x=.int kk a) (hy:ev sl y=.int kk b) (hc:(a != b)=p) (h:G P C all r (i+1) k rs K ((t,.bool p)::sl) st nx):G P C all (⟨some t,.bin .neq x y,none⟩::r) i k rs K sl st nx :=
 eU ok.mono ok.plain (v:=.bool p) (us:=[]) (side:=kk=kk) rfl (by rw [HOp.map,hx,hy]) (by subst hc;rfl) rfl rfl h
theorem Ce [ok:Ok C k] (hx:ev sl x=.int kk a) (hy:ev sl y=.int kk b) (hc:decide (a<b)=p) (h:G P C all r (i+1) k rs K ((t,.bool p)::sl) st nx):G P C all (⟨some t,.bin .lss x y,none⟩::r) i k rs K sl st nx :=
 eU ok.mono ok.plain (v:=.bool p) (us:=[]) (side:=kk=kk) rfl (by rw [HOp.map,hx,hy]) (by subst hc;rfl) rfl rfl h
theorem MS [ok:Ok C k] (hx:ev sl x=.int kk a) (hy:ev sl y=.int kk b) (hc:decide (a<=b)=p) (h:G P C all r (i+1) k rs K ((t,.bool p)::sl) st nx):G P C all (⟨some t,.bin .leq x y,none⟩::r) i k rs K sl st nx :=
 eU ok.mono ok.plain (v:=.bool p) (us:=[]) (side:=kk=kk) rfl (by rw [HOp.map,hx,hy]) (by subst hc;rfl) rfl rfl h
theorem JQ [ok:Ok C k] (hx:ev sl x=.int kk a) (hy:ev sl y=.int kk b) (hc:decide (b<a)=p) (h:G P C all r (i+1) k rs K ((t,.bool p)::sl) st nx):G P C all (⟨some t,.bin .gtr x y,none⟩::r) i k rs K sl st nx :=
 eU ok.mono ok.plain (v:=.bool p) (us:=[]) (side:=kk=kk) rfl (by rw [HOp.map,hx,hy]) (by subst hc;rfl) rfl rfl h
theorem OG [ok:Ok C k] (hx:ev sl x=.int kk a) (hy:ev sl y=.int kk b) (hc:decide (b<=a)=p) (h:G P C all r (i+1) k rs K ((t,.bool p)::sl) st nx):G P C all (⟨some t,.bin .geq x y,none⟩::r) i k rs K sl st nx :=
 eU ok.mono ok.plain (v:=.bool p) (us:=[]) (side:=kk=kk) rfl (by rw [HOp.map,hx,hy]) (by subst hc;rfl) rfl rfl h
theorem O8 [ok:Ok C k] {ne:Bool} (hx:ev sl x=.bool p) (hy:ev sl y=.bool q) (hc:(if ne=true then !(p==q) else p==q)=e) (h:G P C all r (i+1) k rs K ((t,.bool e)::sl) st nx):G P C all (⟨some t,.beq ne x y,none⟩::r) i k rs K sl st nx :=
 eU ok.mono ok.plain (v:=.bool e) (us:=[]) (side:=True) rfl (by rw [HOp.map,hx,hy]) (by subst hc;rfl) trivial rfl h
theorem Nl [ok:Ok C k] {ne:Bool} (hx:ev sl x=.agg cs) (hy:ev sl y=.agg cs') (hs:cs.length=n/\cs'.length=n/\lQ cs=true/\lQ cs'=true) (hc:(if ne=true then !(sJ cs cs') else sJ cs cs')=e) (h:G P C all r (i+1) k rs K ((t,.bool e)::sl) st nx):G P C all (⟨some t,.aeq ne n x y,none⟩::r) i k rs K sl st nx :=
 eU ok.mono ok.plain (v:=.bool e) (us:=[]) (side:=cs.length=n/\cs'.length=n/\lQ cs=true/\lQ cs'=true) rfl (by rw [HOp.map,hx,hy]) (by subst hc;rfl) hs rfl h
theorem Dw [ok:Ok C k] (hx:ev sl x=.bool p) (hc:(!p)=e) (h:G P C all r (i+1) k rs K ((t,.bool e)::sl) st nx):G P C all (⟨some t,.un .not x,none⟩::r) i k rs K sl st nx :=
 eU ok.mono ok.plain (v:=.bool e) (us:=[]) (side:=True) rfl (by rw [HOp.map,hx]) (by subst hc;rfl) trivial rfl h
theorem AY [ok:Ok C k] (hx:ev sl x=.bool true) (h:G P C all r (i+1) k rs K ((t,.bool false)::sl) st nx):G P C all (⟨some t,.un .not x,none⟩::r) i k rs K sl st nx:=Dw hx rfl h
theorem yC [ok:Ok C k] (hx:ev sl x=.bool false) (h:G P C all r (i+1) k rs K ((t,.bool true)::sl) st nx):G P C all (⟨some t,.un .not x,none⟩::r) i k rs K sl st nx:=Dw hx rfl h
theorem Hu [ok:Ok C k] (hx:ev sl x=.int kk a) (hc:kk.wrap (0 - a)=c) (h:G P C all r (i+1) k rs K ((t,.int kk c)::sl) st nx):G P C all (⟨some t,.un .neg x,none⟩::r) i k rs K sl st nx :=
 eU ok.mono ok.plain (v:=.int kk c) (us:=[]) (side:=True) rfl (by rw [HOp.map,hx]) (by subst hc;rfl) trivial rfl h
theorem H9 [ok:Ok C k] {k2:IntKind} (hx:ev sl x=.int k2 a) (hc:kk.wrap a=c) (h:G P C all r (i+1) k rs K ((t,.int kk c)::sl) st nx):G P C all (⟨some t,.conv kk x,none⟩::r) i k rs K sl st nx :=
 eU ok.mono ok.plain (v:=.int kk c) (us:=[]) (side:=True) rfl (by rw [HOp.map,hx]) (by subst hc;rfl) trivial rfl h
theorem WN [ok:Ok C k] {mx:Bool} (hx:ev sl x=.int kk a) (hy:ev sl y=.int kk b) (hc:(if mx=true then (if a<b then b else a) else (if b<a then b else a))=c) (h:G P C all r (i+1) k rs K ((t,.int kk c)::sl) st nx):G P C all (⟨some t,.mm mx x y,none⟩::r) i k rs K sl st nx :=
 eU ok.mono ok.plain (v:=.int kk c) (us:=[]) (side:=kk=kk) rfl (by rw [HOp.map,hx,hy]) (by subst hc;rfl) rfl rfl h
theorem DJ [ok:Ok C k] (hx:ev sl x=.nils) (h:G P C all r (i+1) k rs K ((t,.int .i64 0)::sl) st nx):G P C all (⟨some t,.len x,none⟩::r) i k rs K sl st nx :=
 eU ok.mono ok.plain (v:=.int .i64 0) (us:=[]) (side:=True) rfl (by rw [HOp.map,hx]) rfl trivial rfl h
theorem Bo [ok:Ok C k] (hx:ev sl x=.sl n cs) (h:G P C all r (i+1) k rs K ((t,.int .i64 n)::sl) st nx):G P C all (⟨some t,.len x,none⟩::r) i k rs K sl st nx :=
 eU ok.mono ok.plain (v:=.int .i64 n) (us:=[]) (side:=True) rfl (by rw [HOp.map,hx]) rfl trivial rfl h
theorem yM [ok:Ok C k] (hx:ev sl x=.ref id path sz off n) (h:G P C all r (i+1) k rs K ((t,.int .i64 n)::sl) st nx):G P C all (⟨some t,.len x,none⟩::r) i k rs K sl st nx :=
 eU ok.mono ok.plain (v:=.int .i64 n) (us:=[]) (side:=True) rfl (by rw [HOp.map,hx]) rfl trivial rfl h
theorem Gw [ok:Ok C k] (hx:ev sl x=.sl n cs) (hy:ev sl y=.int kk a) (h0:0<=a/\a<n) (ho:a.toNat*sz=o) (h:G P C all r (i+1) k rs K ((t,.ptr cs o)::sl) st nx):G P C all (⟨some t,.iaddr sz x y,none⟩::r) i k rs K sl st nx :=
 eU ok.mono ok.plain (v:=.ptr cs o) (us:=[]) (side:=0<=a/\a<n) rfl (by rw [HOp.map,hx,hy]) (by subst ho;rfl) h0 rfl h
theorem FI [ok:Ok C k] (hx:ev sl x=.ref id path sz off n) (hy:ev sl y=.int kk a) (h0:0<=a/\a<n) (ho:off+a.toNat*sz=o) (h:G P C all r (i+1) k rs K ((t,.pref id path o)::sl) st nx):G P C all (⟨some t,.iaddr sz x y,none⟩::r) i k rs K sl st nx :=
 eU ok.mono ok.plain (v:=.pref id path o) (us:=[]) (side:=0<=a/\a<n/\sz=sz) rfl (by rw [HOp.map,hx,hy]) (by subst ho;rfl) ⟨h0.1,h0.2,rfl⟩ rfl h
theorem N9 [ok:Ok C k] {dd:Nat} (hx:ev sl x=.ptr cs off) (ho:off+dd=o) (h:G P C all r (i+1) k rs K ((t,.ptr cs o)::sl) st nx):G P C all (⟨some t,.faddr dd x,none⟩::r) i k rs K sl st nx :=
 eU ok.mono ok.plain (v:=.ptr cs o) (us:=[]) (side:=True) rfl (by rw [HOp.map,hx]) (by subst ho;rfl) trivial rfl h
theorem NE [ok:Ok C k] {dd:Nat} (hx:ev sl x=.pref id path off) (ho:off+dd=o) (h:G P C all r (i+1) k rs K ((t,.pref id path o)::sl) st nx):G P C all (⟨some t,.faddr dd x,none⟩::r) i k rs K sl st nx :=
 eU ok.mono ok.plain (v:=.pref id path o) (us:=[]) (side:=True) rfl (by rw [HOp.map,hx]) (by subst ho;rfl) trivial rfl h
theorem GK [ok:Ok C k] (hx:ev sl x=.ptr cs off) (hl:off<cs.length) (hv:cs.getD off .dead=v) (h:G P C all r (i+1) k rs K ((t,v)::sl) st nx):G P C all (⟨some t,.load false sz x,none⟩::r) i k rs K sl st nx :=
 eU ok.mono ok.plain (v:=v) (us:=[]) (side:=off<cs.length) rfl (by rw [HOp.map,hx]) (by subst hv;rfl) hl rfl h
theorem He [ok:Ok C k] (hx:ev sl x=.ptr cs off) (hl:off+sz<=cs.length) (hv:win cs off sz=ws) (h:G P C all r (i+1) k rs K ((t,.agg ws)::sl) st nx):G P C all (⟨some t,.load true sz x,none⟩::r) i k rs K sl st nx :=
 eU ok.mono ok.plain (v:=.agg ws) (us:=[]) (side:=off+sz<=cs.length) rfl (by rw [HOp.map,hx]) (by subst hv;rfl) hl rfl h
theorem Eu [ok:Ok C k] (hx:ev sl x=.pref id path off) (ht:ax id st=u) (hk:bn (aB u path)=cs) (hl:off<cs.length) (hv:cs.getD off .dead=w) (hw:look id path off w=v) (h:G P C all r (i+1) k rs K ((t,v)::sl) st nx):G P C all (⟨some t,.load false sz x,none⟩::r) i k rs K sl st nx :=
 eU ok.mono ok.plain (v:=v) (us:=[]) (side:=off<cs.length) rfl (by rw [HOp.map,hx]) (by
  subst hv hw hk ht
  rfl) hl rfl h
theorem DI [ok:Ok C k] (hx:ev sl x=.pref id path off) (ht:ax id st=u) (hk:bn (aB u path)=cs) (hl:off+sz<=cs.length) (h0:0<sz) (hv:win cs off sz=ws) (hf:aV ws=true) (h:G P C all r (i+1) k rs K ((t,.agg ws)::sl) st nx):G P C all (⟨some t,.load true sz x,none⟩::r) i k rs K sl st nx :=
 eU ok.mono ok.plain (v:=.agg ws) (us:=[]) (side:=off+sz<=cs.length/\0<sz/\aV ws=true) rfl (by rw [HOp.map,hx]) (by
  subst hv hk ht
  simp only [ak,if_true]) ⟨hl,h0,hf⟩ rfl h
theorem AL (L:Lk):∀ {l:List HV},aV l=true->iC L l=(l,[],(iC L l).2.2)/\(iC L l).2.2:=by
 intro l
 induction l generalizing L with
 | nil=>intro _;exact ⟨rfl,trivial⟩
 | cons v r ih =>
  intro h
  simp only [aV,xC,bC] at h
  have h1:takeC L v=(v,[],True):=by cases v<;>first|rfl|(exact absurd h.1 (by simp [gJ]))
  obtain ⟨h2,h3⟩:=ih (L:=L) h.2
  simp only [iC,h1,Lk.upd]
  rw [h2]
  exact ⟨rfl,trivial,h3⟩
theorem Ov [ok:Ok C k] (hx:ev sl x=.pref id path off) (hy:ev sl y=w) (hw:cellsOf w=ws) (hf:aV ws=true) (hz:ws.length=sz) (h0:0<sz) (ht:ax id st=u) (hk:bn (aB u path)=cs) (hl:off+sz<=cs.length)
  (hs:setFrom cs off ws=cs') (hn:dI (di cs' (aB u path)) u path=v) (h:G P C all r (i+1) k rs K sl ((id,v)::st) nx):G P C all (⟨none,.store true sz x y,none⟩::r) i k rs K sl st nx:=by
 obtain ⟨e1,e2⟩:=AL (fun j=>ax j st) hf
 refine eU ok.mono ok.plain (v:=.dead) (us:=[.put id v]) (side:=(iC (fun j=>ax j st) ws).2.2/\ws.length=sz/\0<sz/\off+sz<=cs.length/\(true=true->aV ws=true)) rfl (by rw [HOp.map,hx,hy]) ?_ ⟨e2,hz,h0,hl,fun _=>hf⟩ rfl h
 subst hn hs hk ht hw
 simp only [ak]
 rw [e1]
 simp only [if_true,List.nil_append,Lk.upd]
theorem Pm [ok:Ok C k] {n q:Nat} {ws':List HV} {sd:Prop} (hx:ev sl x=.ref id path 1 off n) (hy:ev sl y=w) (hn:dN (fun j=>ax j st) true 1 w=(m,ws,[],sd)) (hs:sd) (hq:min m n=q) (hw:ws.take q=ws') (hf:aV ws'=true) (h0:0<q) (ht:ax id st=u) (hk:bn (aB u path)=cs) (hl:off+q<=cs.length)
  (hse:setFrom cs off ws'=cs') (hnn:dI (di cs' (aB u path)) u path=v) (h:G P C all r (i+1) k rs K ((t,.int .i64 (q:Nat))::sl) ((id,v)::st) nx):G P C all (⟨some t,.cpy x y,none⟩::r) i k rs K sl st nx:=by
 subst hnn hse hk ht hw hq
 refine eU ok.mono ok.plain (v:=.int .i64 (min m n:Nat)) (us:=[.put id (dI (di (setFrom (bn (aB (ax id st) path)) off (ws.take (min m n))) (aB (ax id st) path)) (ax id st) path)]) (side:=sd/\1=1/\0<min m n/\off+min m n<=(bn (aB (ax id st) path)).length/\aV (ws.take (min m n))=true) rfl (by rw [HOp.map,hx,hy]) ?_ ⟨hs,rfl,h0,hl,hf⟩ rfl h
 simp only [ak,hn]
theorem ND [ok:Ok C k] {fr:Nat} (hf:nx+stride*i=fr) (hx:ev sl x=v) (hv:adf v=true) (h:G P C all r (i+1) k rs K ((t,.ref fr [] sz 0 0)::sl) ((fr,.osl sz 0 [])::st) nx):G P C all (⟨some t,.slz sz x,none⟩::r) i k rs K sl st nx:=by
 subst hf
 cases v<;>simp only [adf,Bool.false_eq_true] at hv<;>exact eU ok.mono ok.plain (v:=.ref _ [] sz 0 0) (us:=[.put _ (.osl sz 0 [])]) (side:=True) rfl (by rw [HOp.map,hx]) rfl trivial rfl h
theorem Gm [ok:Ok C k] {ne:Bool} (hx:ev sl x=.nils) (h:G P C all r (i+1) k rs K ((t,.bool (!ne))::sl) st nx):G P C all (⟨some t,.isn ne x,none⟩::r) i k rs K sl st nx :=
 eU ok.mono ok.plain (v:=.bool (!ne)) (us:=[]) (side:=True) rfl (by rw [HOp.map,hx]) rfl trivial rfl h
theorem Gl [ok:Ok C k] {ne:Bool} (hx:ev sl x=.sl n cs) (hn:0<n) (h:G P C all r (i+1) k rs K ((t,.bool ne)::sl) st nx):G P C all (⟨some t,.isn ne x,none⟩::r) i k rs K sl st nx :=
 eU ok.mono ok.plain (v:=.bool ne) (us:=[]) (side:=0<n) rfl (by rw [HOp.map,hx]) rfl hn rfl h
theorem Ig [ok:Ok C k] {ne:Bool} (hx:ev sl x=.ref id path sz off n) (hn:0<n) (h:G P C all r (i+1) k rs K ((t,.bool ne)::sl) st nx):G P C all (⟨some t,.isn ne x,none⟩::r) i k rs K sl st nx :=
 eU ok.mono ok.plain (v:=.bool ne) (us:=[]) (side:=0<n) rfl (by rw [HOp.map,hx]) rfl hn rfl h
theorem Pg [ok:Ok C k] (hx:ev sl x=.agg cs) (hl:off<cs.length) (hv:cs.getD off .dead=v) (h:G P C all r (i+1) k rs K ((t,v)::sl) st nx):G P C all (⟨some t,.fld false sz off x,none⟩::r) i k rs K sl st nx :=
 eU ok.mono ok.plain (v:=v) (us:=[]) (side:=off<cs.length) rfl (by rw [HOp.map,hx]) (by subst hv;rfl) hl rfl h
theorem Gv [ok:Ok C k] (hx:ev sl x=.agg cs) (hl:off+sz<=cs.length) (hv:win cs off sz=ws) (h:G P C all r (i+1) k rs K ((t,.agg ws)::sl) st nx):G P C all (⟨some t,.fld true sz off x,none⟩::r) i k rs K sl st nx :=
 eU ok.mono ok.plain (v:=.agg ws) (us:=[]) (side:=off+sz<=cs.length) rfl (by rw [HOp.map,hx]) (by subst hv;rfl) hl rfl h
theorem EG [ok:Ok C k] (hx:ev sl x=.tup cs) (hl:n<cs.length) (hv:cs.getD n .dead=v) (h:G P C all r (i+1) k rs K ((t,v)::sl) st nx):G P C all (⟨some t,.ext x n,none⟩::r) i k rs K sl st nx :=
 eU ok.mono ok.plain (v:=v) (us:=[]) (side:=n<cs.length) rfl (by rw [HOp.map,hx]) (by subst hv;rfl) hl rfl h
theorem GI [ok:Ok C k] {lo hi:Option HX} (hx:ev sl x=.sl n cs) (hlo:(lo.map (ev sl)).getD (.int .i64 0)=.int .i64 a) (hhi:(hi.map (ev sl)).getD (.int .i64 n)=.int .i64 b) (hside:0<=a/\a<=b/\b<=n) (hm:(b - a).toNat=m) (ho:a.toNat*sz=o) (hw:win cs o (m*sz)=ws)
  (h:G P C all r (i+1) k rs K ((t,.sl m ws)::sl) st nx):G P C all (⟨some t,.slc sz x lo hi,none⟩::r) i k rs K sl st nx :=
 eU ok.mono ok.plain (v:=.sl m ws) (us:=[]) (side:=0<=a/\a<=b/\b<=n) rfl (by rw [HOp.map,hx]) (by subst hw hm ho;simp only [ak,hlo,hhi]) hside rfl h
theorem FM [ok:Ok C k] {lo hi:Option HX} (hx:ev sl x=.ref id path sz off n) (hlo:(lo.map (ev sl)).getD (.int .i64 0)=.int .i64 a) (hhi:(hi.map (ev sl)).getD (.int .i64 n)=.int .i64 b) (hside:0<=a/\a<=b/\b<=n) (hm:(b - a).toNat=m) (ho:off+a.toNat*sz=o)
  (h:G P C all r (i+1) k rs K ((t,.ref id path sz o m)::sl) st nx):G P C all (⟨some t,.slc sz x lo hi,none⟩::r) i k rs K sl st nx :=
 eU ok.mono ok.plain (v:=.ref id path sz o m) (us:=[]) (side:=0<=a/\a<=b/\b<=n/\sz=sz) rfl (by rw [HOp.map,hx]) (by subst hm ho;simp only [ak,hlo,hhi]) ⟨hside.1,hside.2.1,hside.2.2,rfl⟩ rfl h
theorem Cj [ok:Ok C k] {xs:List HX} {vs:List HV} {fr:Nat} (hf:nx+stride*i=fr) (hvs:xs.map (ev sl)=vs) (hcs:vs.flatMap cellsOf=cs) (hfl:aV cs=true) (hn:n=vs.length) (hz:(vs.all fun v=>(cellsOf v).length==sz)=true)
  (h:G P C all r (i+1) k rs K ((t,.ref fr [] sz 0 n)::sl) ((fr,.osl sz n cs)::st) nx):G P C all (⟨some t,.bsl sz n xs,none⟩::r) i k rs K sl st nx:=by
 obtain ⟨e1,e2⟩:=AL (fun j=>ax j st) hfl
 subst hf
 refine eU ok.mono ok.plain (us:=[.put (nx+stride*i) (.osl sz n cs)]) (side:=(iC (fun j=>ax j st) cs).2.2/\n=vs.length/\(vs.all fun v=>(cellsOf v).length==sz)=true) rfl (by rw [HOp.map,hvs]) ?_ ⟨e2,hn,hz⟩ rfl h
 subst hcs
 simp only [ak]
 rw [e1]
 rfl
theorem Ba (a b:List Upd):∀ (sl st:List (Nat×HV)),uT sl st (a++b)=uT (uT sl st a).1 (uT sl st a).2 b:=by
 induction a with
 | nil=>intro sl st;rfl
 | cons u a ih=>intro sl st;cases u<;>exact ih _ _
theorem Jf [ok:Ok C k] {fl:Bool} {ws0:List HV} {us:List Upd} {sd:Prop} (hx:ev sl x=.pref id path off) (hy:ev sl y=w) (hw:cellsOf w=ws0) (ht:iC (fun j=>ax j st) ws0=(ws,us,sd)) (hs:sd) (hz:ws.length=sz) (h0:0<sz) (hf:fl=false) (hu0:Lk.upd (fun j=>ax j st) us id=u) (hk:bn (aB u path)=cs) (hl:off+sz<=cs.length)
  (hse:setFrom cs off ws=cs') (hn:dI (di cs' (aB u path)) u path=v) (hu:uT sl st (us++[.kill id path.length]++[.put id v])=(sl',st')) (h:G P C all r (i+1) k rs K sl' st' nx):G P C all (⟨none,.store fl sz x y,none⟩::r) i k rs K sl st nx:=by
 subst hf hn hse hk hu0 hw
 refine eU ok.mono ok.plain (v:=.dead) (us:=us++[.kill id path.length]++[.put id (dI (di (setFrom (bn (aB (Lk.upd (fun j=>ax j st) us id) path)) off ws) (aB (Lk.upd (fun j=>ax j st) us id) path)) (Lk.upd (fun j=>ax j st) us id) path)]) (side:=sd/\ws.length=sz/\0<sz/\off+sz<=(bn (aB (Lk.upd (fun j=>ax j st) us id) path)).length/\(false=true->aV ws=true)) rfl (by rw [HOp.map,hx,hy]) ?_ ⟨hs,hz,h0,hl,fun h=>by cases h⟩ (by rw [hu];rfl) h
 simp only [ak,ht,if_false,Bool.false_eq_true]
theorem Ih [ok:Ok C k] {xs:List HX} {vs cs0:List HV} {us:List Upd} {sd:Prop} {fr:Nat} (hf:nx+stride*i=fr) (hvs:xs.map (ev sl)=vs) (hcs:vs.flatMap cellsOf=cs0) (ht:iC (fun j=>ax j st) cs0=(cs,us,sd)) (hs:sd) (hn:n=vs.length) (hz:(vs.all fun v=>(cellsOf v).length==sz)=true) (hu:uT sl st us=(sl',st'))
  (h:G P C all r (i+1) k rs K ((t,.ref fr [] sz 0 n)::sl') ((fr,.osl sz n cs)::st') nx):G P C all (⟨some t,.bsl sz n xs,none⟩::r) i k rs K sl st nx:=by
 subst hf
 refine eU ok.mono ok.plain (v:=.ref (nx+stride*i) [] sz 0 n) (us:=us++[.put (nx+stride*i) (.osl sz n cs)]) (side:=sd/\n=vs.length/\(vs.all fun v=>(cellsOf v).length==sz)=true) rfl (by rw [HOp.map,hvs]) ?_ ⟨hs,hn,hz⟩ (by rw [Ba,hu];rfl) h
 subst hcs
 simp only [ak]
 rw [ht]
theorem DC [ok:Ok C k] {fr bytes sz2 n2 q:Nat} {fl:Bool} {sd:Prop} {us:List Upd} {u':HV} (hf:nx+stride*i=fr) (hx:ev sl x=.ref id path sz off n) (hy:ev sl y=w) (hn:dN (fun j=>ax j st) fl sz w=(m,ws,us,sd)) (hs:sd) (ht:Lk.upd (fun j=>ax j st) us id=u) (hg:aB u path=.osl sz2 n2 cs) (hq:n+m=q)
  (hb:q*bytes<=140737488355328) (hm:q<=maxLen) (hl:off+n*sz<=cs.length) (hc:win cs off (n*sz)++ws=cs') (hd:dI .dead u path=u') (hu:uT sl st us=(sl',st'))
  (h:G P C all r (i+1) k rs K ((t,.ref fr [] sz 0 q)::sl') ((fr,.osl sz q cs')::(id,u')::st') nx):G P C all (⟨some t,.app fl sz bytes x y,none⟩::r) i k rs K sl st nx:=by
 subst hf hd hc ht hq
 refine eU ok.mono ok.plain (v:=.ref (nx+stride*i) [] sz 0 (n+m)) (us:=us++[.put id (dI .dead (Lk.upd (fun j=>ax j st) us id) path),.put (nx+stride*i) (.osl sz (n+m) (win cs off (n*sz)++ws))]) (side:=sd/\(n+m)*bytes<=140737488355328/\n+m<=maxLen/\sz=sz/\off+n*sz<=cs.length) rfl (by rw [HOp.map,hx,hy]) ?_ ⟨hs,hb,hm,rfl,hl⟩ (by rw [Ba,hu];rfl) h
 simp only [ak,hn,hg]
theorem Aw [ok:Ok C k] {fr:Nat} (hf:nx+stride*i=fr) (hv:ev sl x=v) (hcs:cellsOf v=cs) (hfl:aV cs=true) (hz:cs.length=sz) (h:G P C all r (i+1) k rs K ((t,.pref fr [] 0)::sl) ((fr,.optr cs)::st) nx):G P C all (⟨some t,.newv sz x,none⟩::r) i k rs K sl st nx:=by
 obtain ⟨e1,e2⟩:=AL (fun j=>ax j st) hfl
 subst hf
 refine eU ok.mono ok.plain (us:=[.put (nx+stride*i) (.optr cs)]) (side:=(iC (fun j=>ax j st) cs).2.2/\cs.length=sz) rfl (by rw [HOp.map,hv]) ?_ ⟨e2,hz⟩ rfl h
 subst hcs
 simp only [ak]
 rw [e1]
 rfl
theorem GX [ok:Ok C k] {fr:Nat} (hf:nx+stride*i=fr) (h:G P C all r (i+1) k rs K ((t,.pref fr [] 0)::sl) ((fr,.optr cs)::st) nx):G P C all (⟨some t,.newz cs,none⟩::r) i k rs K sl st nx:=by
 subst hf
 exact eU ok.mono ok.plain (us:=[.put (nx+stride*i) (.optr cs)]) (side:=True) rfl rfl rfl trivial rfl h
theorem MC [ok:Ok C k] {zs:List HV} {ps:List (Nat×Nat×HX)} {qs:List (Nat×Nat×HV)} {side:Prop} (hq:(ps.map fun p=>(p.1,p.2.1,ev sl p.2.2))=qs) (hw:pJ zs qs=(ws,side)) (hs:side) (h:G P C all r (i+1) k rs K ((t,.agg ws)::sl) st nx):G P C all (⟨some t,.bld zs ps,none⟩::r) i k rs K sl st nx :=
 eU ok.mono ok.plain (v:=.agg ws) (us:=[]) (side:=side) rfl rfl (by simp only [ak,HOp.map];rw [hq,hw]) hs rfl h
theorem H8 [ok:Ok C k] {fr bytes:Nat} {zs:List HV} (hf:nx+stride*i=fr) (hx:ev sl x=.int .i64 a) (hs:0<=a/\bytes*a<=281474976710656/\a<=9223372036854775807) (hm:a.toNat=m) (hcs:(List.replicate m zs).flatten=cs)
  (h:G P C all r (i+1) k rs K ((t,.ref fr [] sz 0 m)::sl) ((fr,.osl sz m cs)::st) nx):G P C all (⟨some t,.mksl sz bytes zs x,none⟩::r) i k rs K sl st nx:=by
 subst hf hcs hm
 exact eU ok.mono ok.plain (us:=[.put (nx+stride*i) (.osl sz a.toNat (List.replicate a.toNat zs).flatten)]) (side:=0<=a/\bytes*a<=281474976710656/\a<=9223372036854775807) rfl (by rw [HOp.map,hx]) rfl hs rfl h
theorem Gq [ok:Ok C k] {fr bytes:Nat} {fl:Bool} {sd:Prop} (hf:nx+stride*i=fr) (hx:ev sl x=.nils) (hy:ev sl y=w) (hn:dN (fun j=>ax j st) fl sz w=(m,ws,[],sd)) (hs:sd) (hb:m*bytes<=140737488355328) (hm:m<=maxLen)
  (h:G P C all r (i+1) k rs K ((t,.ref fr [] sz 0 m)::sl) ((fr,.osl sz m ws)::st) nx):G P C all (⟨some t,.app fl sz bytes x y,none⟩::r) i k rs K sl st nx:=by
 subst hf
 refine eU ok.mono ok.plain (us:=[.put (nx+stride*i) (.osl sz m ws)]) (side:=sd/\m*bytes<=140737488355328/\m<=maxLen) rfl (by rw [HOp.map,hx,hy]) ?_ ⟨hs,hb,hm⟩ rfl h
 simp only [ak,hn]
 rfl
theorem yg [ok:Ok C k] {fr bytes sz2 n2 q:Nat} {fl:Bool} {sd:Prop} {u':HV} (hf:nx+stride*i=fr) (hx:ev sl x=.ref id path sz off n) (hy:ev sl y=w) (hn:dN (fun j=>ax j st) fl sz w=(m,ws,[],sd)) (hs:sd) (ht:ax id st=u) (hg:aB u path=.osl sz2 n2 cs) (hq:n+m=q)
  (hb:q*bytes<=140737488355328) (hm:q<=maxLen) (hl:off+n*sz<=cs.length) (hc:win cs off (n*sz)++ws=cs') (hd:dI .dead u path=u')
  (h:G P C all r (i+1) k rs K ((t,.ref fr [] sz 0 q)::sl) ((fr,.osl sz q cs')::(id,u')::st) nx):G P C all (⟨some t,.app fl sz bytes x y,none⟩::r) i k rs K sl st nx:=by
 subst hf hd hc ht hq
 refine eU ok.mono ok.plain (us:=[.put id (dI .dead (ax id st) path),.put (nx+stride*i) (.osl sz (n+m) (win cs off (n*sz)++ws))]) (side:=sd/\(n+m)*bytes<=140737488355328/\n+m<=maxLen/\sz=sz/\off+n*sz<=cs.length) rfl (by rw [HOp.map,hx,hy]) ?_ ⟨hs,hb,hm,rfl,hl⟩ rfl h
 simp only [ak,hn,Lk.upd,hg,List.nil_append]
theorem yu [ok:Ok C k] {f:FuncId} {xs:List HX} {vs:List HV} (hvs:xs.map (ev sl)=vs) (h:G P C all r (i+1) k rs K ((t,.fn f vs)::sl) st nx):G P C all (⟨some t,.mkfn f xs,none⟩::r) i k rs K sl st nx :=
 eU ok.mono ok.plain (v:=.fn f vs) (us:=[]) (side:=True) rfl (by rw [HOp.map,hvs]) rfl trivial rfl h
def aa8:HV->Bool
 | .ptr ..=>true
 | .pref ..=>true
 | .fn ..=>true
 | _=>false
theorem DD [ok:Ok C k] (hx:ev sl x=v) (hv:aa8 v=true) (h:G P C all r (i+1) k rs K ((t,v)::sl) st nx):G P C all (⟨some t,.nilck x,none⟩::r) i k rs K sl st nx :=
 eU ok.mono ok.plain (v:=v) (us:=[]) (side:=True) rfl (by rw [HOp.map,hx]) (by cases v<;>first|rfl|cases hv) trivial rfl h
theorem xQ [ok:Ok C k] (hx:ev sl x=v) (hv:aa8 v=true) (h:G P C all r (i+1) k rs K sl st nx):G P C all (⟨none,.nilck x,none⟩::r) i k rs K sl st nx :=
 eU ok.mono ok.plain (v:=v) (us:=[]) (side:=True) rfl (by rw [HOp.map,hx]) (by cases v<;>first|rfl|cases hv) trivial rfl h
theorem FK {op:HOp HX} {j e:Nat} {want:Bool} (hd:(all[j]?).bind (·.dst)=some e) (hb:ax e sl=.bool want) (h:G P C all (⟨d,op,none⟩::r) i k rs K sl st nx):G P C all (⟨d,op,some (j,want)⟩::r) i k rs K sl st nx:=aeH hd hb h
theorem QS [ok:Ok C k] {op:HOp HX} {j e:Nat} {want:Bool} (hd:(all[j]?).bind (·.dst)=some e) (hb:ax e sl=.bool (!want)) (h:G P C all r (i+1) k rs K ((t,.tup [])::sl) st nx):G P C all (⟨some t,op,some (j,want)⟩::r) i k rs K sl st nx:=by
 refine aa1 hd hb ?_
 exact kL ok.mono ok.plain (s:=⟨(t,.tup [])::sl,st,nx⟩) (nV (us:=[]) (d:=some t) (v:=(.tup [])) rfl) h
theorem Gg {op:HOp HX} {j e:Nat} {want:Bool} (hd:(all[j]?).bind (·.dst)=some e) (hb:ax e sl=.bool (!want)) (h:G P C all r (i+1) k rs K sl st nx):G P C all (⟨none,op,some (j,want)⟩::r) i k rs K sl st nx:=aa1 hd hb h
theorem Ii [ok:Ok C k] {op:HOp HX} {j e:Nat} {want:Bool} (hd:(all[j]?).bind (·.dst)=some e) (hb:ax e sl=.tup []) (h:G P C all r (i+1) k rs K ((t,.tup [])::sl) st nx):G P C all (⟨some t,op,some (j,want)⟩::r) i k rs K sl st nx:=by
 refine Vd rfl hd hb ?_
 exact kL ok.mono ok.plain (s:=⟨(t,.tup [])::sl,st,nx⟩) (nV (us:=[]) (d:=some t) (v:=.tup []) rfl) h
theorem yK {nx':Nat} (hn:nx+stride*all.length=nx') (h:hx P k (finish rs K) ⟨sl,st,nx'⟩):G P C all [] i k rs K sl st nx:=by
 subst hn
 show hx P (.o C all [] i::k) (finish rs K) ⟨sl,st,nx⟩
 rw [WS];exact h
theorem aF [ok:Ok (HS P) k] {f:FuncId} {xs:List HX} {vs args:List HV} {K':HV->Prop} (hvs:xs.map (ev sl)=vs) (ha:dM cZ (fun j=>ax j st) vs=args) (hC:HT P f args K')
  (h:∀v,K' v->(aJ vs || v.noRd)=true/\∃v' us n2 sl' st',unpack (nx+stride*i) v=(v',us,n2)/\n2<=nx+stride*(i+1)/\Bz d v' (uT sl st us)=(sl',st')/\G P (HS P) all r (i+1) k rs K sl' st' nx) :
  G P (HS P) all (⟨d,.call f xs,none⟩::r) i k rs K sl st nx:=by
 subst hvs
 refine Zj (ha▸hC) ?_
 intro v hv
 obtain ⟨h1,v',us,n2,sl',st',h2,h3,h4,h5⟩:=h v hv
 rw [h2]
 exact ⟨h1,h3,kL ok.mono ok.plain (nV h4) h5⟩
theorem bI {D:FuncId->List HV->HV->Prop} [ok:Ok (CS P D) k] {f:FuncId} {xs:List HX} {vs args:List HV} (hvs:xs.map (ev sl)=vs) (ha:dM cZ (fun j=>ax j st) vs=args) (hC:HT P f args (D f args)) (hex:∃r,D f args r/\r.deep=[])
  (h:∀v,D f args v->v.deep=[]->(aJ vs || v.noRd)=true/\∃v' us n2 sl' st',unpack (nx+stride*i) v=(v',us,n2)/\n2<=nx+stride*(i+1)/\Bz d v' (uT sl st us)=(sl',st')/\G P (CS P D) all r (i+1) k rs K sl' st' nx) :
  G P (CS P D) all (⟨d,.call f xs,none⟩::r) i k rs K sl st nx:=by
 subst hvs ha
 refine YH hC hex ?_
 intro v hv hd
 obtain ⟨h1,v',us,n2,sl',st',h2,h3,h4,h5⟩:=h v hv hd
 rw [h2]
 exact ⟨h1,h3,kL ok.mono ok.plain (nV h4) h5⟩
theorem Fb [ok:Ok (HS P) k] {f:FuncId} {xs:List HX} {cap vs args:List HV} {K':HV->Prop} (hx:ev sl x=.fn f cap) (hvs:xs.map (ev sl)=vs) (ha:dM cZ (fun j=>ax j st) (vs++cap)=args) (hC:HT P f args K')
  (h:∀v,K' v->(aJ (vs++cap) || v.noRd)=true/\∃v' us n2 sl' st',unpack (nx+stride*i) v=(v',us,n2)/\n2<=nx+stride*(i+1)/\Bz d v' (uT sl st us)=(sl',st')/\G P (HS P) all r (i+1) k rs K sl' st' nx) :
  G P (HS P) all (⟨d,.callv x xs,none⟩::r) i k rs K sl st nx:=by
 subst hvs
 refine WW hx (ha▸hC) ?_
 intro v hv
 obtain ⟨h1,v',us,n2,sl',st',h2,h3,h4,h5⟩:=h v hv
 rw [h2]
 exact ⟨h1,h3,kL ok.mono ok.plain (nV h4) h5⟩
end
section
variable {P:Program} {k:List HI} {Q:HE->St->Prop} {s:St}
def LI {α:Type} (Inv:α->Prop) (S:α->St) (s:St):Prop:=∃a,Inv a/\s=S a
open Classical in
noncomputable def Lμ {α:Type} (Inv:α->Prop) (S:α->St) (m:α->Nat) (s:St):Nat:=if h:∃n,∃a,Inv a/\s=S a/\m a=n then Classical.choose (AU h) else 0
theorem MG {α:Type} {Inv:α->Prop} {S:α->St} {m:α->Nat} {s:St} (h:LI Inv S s):(∃a,Inv a/\s=S a/\m a=Lμ Inv S m s)/\∀a,Inv a->s=S a->Lμ Inv S m s<=m a:=by
 have hex:∃n,∃a,Inv a/\s=S a/\m a=n:=by obtain ⟨a,h1,h2⟩:=h;exact ⟨m a,a,h1,h2,rfl⟩
 have e:Lμ Inv S m s=Classical.choose (AU hex):=by unfold Lμ;rw [dif_pos hex]
 rw [e]
 have hs:=Classical.choose_spec (AU hex)
 exact ⟨hs.1,fun a h1 h2=>hs.2 _ ⟨a,h1,h2,rfl⟩⟩
theorem aI {α:Type} {b:HCode} (keep:List Nat) (Inv:α->Prop) (S:α->St) (m:α->Nat) (a0:α) (h0:Inv a0) (hn:norm2 keep s=S a0) (hr:∀a,Inv a->hx P (.c b::.l (LI Inv S) (Lμ Inv S m) (m a)::k) Q (S a)):hx P (.c (.loop b)::k) Q s:=by
 refine Zn (LI Inv S) (Lμ Inv S m) (S a0) (hn▸Weak.norm2 keep s) ⟨a0,h0,rfl⟩ ?_
 intro s1 h1
 obtain ⟨⟨a,h2,h3,h4⟩,_⟩:=MG (m:=m) h1
 rw [<- h4]
 subst h3
 exact hr a h2
theorem aP {α:Type} {n:Nat} (keep:List Nat) {Inv:α->Prop} {S:α->St} {m:α->Nat} (a:α) (h1:Inv a) (h2:m a<n) (hn:norm2 keep s=S a):hx P (.l (LI Inv S) (Lμ Inv S m) n::k) Q s:=by
 refine af0 (S a) (hn▸Weak.norm2 keep s) ⟨a,h1,rfl⟩ ?_
 exact Nat.lt_of_le_of_lt ((MG (m:=m) ⟨a,h1,rfl⟩).2 a h1 rfl) h2
theorem az {x:HCode} (id:Nat) (keep:List Nat) (s0:St) (hn:norm2 keep (freeze id s)=s0) (h:hx P (.c x::k) Q s0):hx P (.c x::k) Q s:=jX ((Weak.freeze id s).trans (hn▸Weak.norm2 keep (freeze id s))) h
theorem aY {x:HCode} (keep:List Nat) (s0:St) (hn:norm2 keep s=s0) (h:hx P (.c x::k) Q s0):hx P (.c x::k) Q s:=jX (hn▸Weak.norm2 keep s) h
theorem aaT {rs:List Nat} {K:HV->Prop} {sl st:List (Nat×HV)} {nx:Nat} {vs0 vs:List HV} {us:List Upd} {side:Prop} (hvs:(rs.map fun r=>ax r sl)=vs0) (h0:aN (fun j=>ax j st) vs0=(vs,us,side)) (hs:side) (hK:K (bT vs)) :
  hx P (.c .ret::k) (finish rs K) ⟨sl,st,nx⟩:=ZV (by rw [hvs];exact h0) hs hK
theorem ae {rs:List Nat} {K:HV->Prop} {sl st:List (Nat×HV)} {nx:Nat} {vs0 vs:List HV} {us:List Upd} {side:Prop} (hK:K (bT vs)) (hvs:(rs.map fun r=>ax r sl)=vs0:=by (try simp only [dV,pY]);repeat (first|(apply eL1;· exact (by first|exact eI rfl|exact eB rfl|exact eR rfl|exact eS rfl|exact eP rfl|exact eT rfl|exact eA rfl|exact eN rfl|exact eQ rfl|exact eF rfl|exact eD rfl|exact eM rfl|exact eK rfl|exact eV rfl|exact eX rfl|exact eL rfl))|rfl)) (h0:aN (fun j=>ax j st) vs0=(vs,us,side):=by simp only [aN,takeD,takeC,ax,Lk.upd,if_true,if_false,reduceIte,Nat.reduceEqDiff,List.append_nil,List.nil_append];try rfl) (hs:side:=by first|trivial|(refine ⟨?_,?_⟩<;>trivial)|(simp only [and_true,true_and];done)):hx P (.c .ret::k) (finish rs K) ⟨sl,st,nx⟩:=aaT hvs h0 hs hK
end
theorem aaL {P:Program} {rs:List Nat} {K:HV->Prop} {sl st:List (Nat×HV)} {nx:Nat} {vs0 vs:List HV} {us:List Upd} {side:Prop} (hvs:(rs.map fun r=>ax r sl)=vs0) (h0:aN (fun j=>ax j st) vs0=(vs,us,side)) (hs:side) (hK:K (bT vs)) :
  hx P [] (finish rs K) ⟨sl,st,nx⟩:=by
 unfold hx hk finish
 simp only
 have hM:St.M ⟨sl,st,nx⟩=fun j=>ax j st:=rfl
 rw [hM,hvs,h0]
 exact ⟨hs,hK⟩
theorem Bh {P:Program} {k:List HI} {Q:HE->St->Prop} {x:HCode} {sl st:List (Nat×HV)} {nx:Nat} (t:Nat) (keep:List Nat) {id sz m n:Nat} {ds:List HV} (s0:St) (h1:ax t sl=.ref id [] sz 0 m) (h2:ax id st=.osl sz n ds) (h4:m<=n) (h5:aV ds=true) (h6:0<sz)
  (hn:norm2 keep ⟨(t,.ref nx [] sz 0 m)::sl,(nx,.osl sz m (ds.take (m*sz)))::(id,.dead)::st,nx+1⟩=s0) (h:hx P (.c x::k) Q s0):hx P (.c x::k) Q ⟨sl,st,nx⟩:=by
 have e:shrink t ⟨sl,st,nx⟩=⟨(t,.ref nx [] sz 0 m)::sl,(nx,.osl sz m (ds.take (m*sz)))::(id,.dead)::st,nx+1⟩:=by
  have a1:St.S ⟨sl,st,nx⟩ t=.ref id [] sz 0 m:=h1
  have a2:St.M ⟨sl,st,nx⟩ id=.osl sz n ds:=h2
  unfold shrink
  rw [a1]
  simp only
  rw [a2]
  simp only
  rw [if_pos ⟨trivial,h4,h5,h6⟩]
 exact jX ((Weak.shrink t ⟨sl,st,nx⟩).trans (by rw [e];exact hn▸Weak.norm2 keep _)) h
theorem uX {l:List HV} (h:aV l=true) (sz n q:Nat) (r:List Nat):¬ isNode (aB (.osl sz n l) (q::r)):=by
 intro hn
 simp only [aB] at hn
 rw [bH] at hn
 cases hc:l[q]? with
 | none=>rw [hc] at hn;rw [Option.getD_none,jU] at hn;exact hn
 | some v =>
  rw [hc] at hn
  simp only [kC] at hn
  have:=zl021.1 h _ (List.mem_of_getElem? hc)
  cases r<;>cases v<;>simp [gJ] at this<;>exact hn
section
variable {P:Program} {E:Fr} {N fr:Nat} {sl st:Lk} {loc:Nat->Value} {fp:Nat->List Nat} {a:Act} {w:World}
theorem YZ (hr:Rel E N sl st loc fp a w) (hfr:N<=fr) {t tx e e' ty:TypeId} {i:TypeInfo} (ht:P.underlying t=some (.slice e)) (htx:P.underlying tx=some (.slice e')) (hi:P.info? e=some i) {z:Value} (hz:i.zero=some z) (hzs:z.cells.size=i.size)
  {id n m:Nat} {cs ws:List HV} {y:HV} {sd:Prop} {rx ry:Value} (hx:V E N st loc fp w (.ref id [] i.size 0 n) rx) (hst:st id=.osl i.size n cs) (hcf:aV cs=true) (hy:V E N st loc fp w y ry) (hn:dN st true i.size y=(m,ws,[],sd)) (hs:sd) (hwf:aV ws=true)
  (hm0:0<m) (hb:(n+m)*i.bytes<=140737488355328) (hm:n+m<=maxLen) :
  ∃r w',(Builtin.append_ #[t,tx] ty #[rx,ry]).run P w=.ok r w'/\(After E (fr+1) sl st [.put id (.osl i.size (n+m) (cs++ws))] (.ref id [] i.size 0 (n+m)) r a w' \/
   After E (fr+1) sl st [.put fr (.osl i.size (n+m) (cs++ws))] (.ref fr [] i.size 0 (n+m)) r a w'):=by
 have hnv:(dN st true i.size y).2.2.2:=by rw [hn];exact hs
 obtain ⟨rn,ff,ids,T⟩:=Bd hr htx hy hnv
 rw [hn] at T
 have hrl:=T.src.toSrc.newsLen
 have hol:=T.own.length
 simp only at hrl hol
 have hwn:OW (dY E fp w) w.heap dG ws rn []:=OW.flatL T.own hwf
 have grow:∀ {base:Option Addr} {sLen sCap:Nat} {olds:List Value},(Builtin.firstCells i.size sLen (.slice base sLen sCap)).run P w.drew=.ok olds.toArray w.drew->sCap<sLen+m->(sLen+m)*i.bytes<=140737488355328->sLen+m<=maxLen->_ :=
  fun {base sLen sCap olds} h1 h2 h3 h4=>run_append_grow_src (P:=P) w t tx ty e i z ht hi hz base sLen sCap olds h1 ry _ rn T.src.toSrc h2 (by unfold maxLen at h4;omega) (growslice_fits h2 h3)
 obtain ⟨hid,hp,⟨a',c,rfl,hc,hsome⟩,h5,h4⟩:=oW hx
 obtain ⟨-,a2,cap,b1,b2⟩:=h4 _ _ _ (by rw [aB];exact hst)
 have b1':loc id=.slice a2 n cap:=by simpa [dF] using b1
 have hdd:st id≠.dead:=by rw [hst];simp
 have ho:=hr.tree id hdd
 rw [hst,b1'] at ho
 have hidfr:id≠fr:=by omega
 have cpy:∀ {olds:List Value},(Builtin.firstCells i.size n (.slice a' n c)).run P w.drew=.ok olds.toArray w.drew->c<n+m->OW (dY E fp w) w.heap dG cs olds []->cs.length=n*i.size ->
   ∃r w',(Builtin.append_ #[t,tx] ty #[.slice a' n c,ry]).run P w=.ok r w'/\After E (fr+1) sl st [.put fr (.osl i.size (n+m) (cs++ws))] (.ref fr [] i.size 0 (n+m)) r a w':=by
  intro olds h1 h2 h3 h6
  have hg:=grow h1 h2 hb hm
  simp only at hg
  refine ⟨_,_,hg,?_⟩
  have old:∀b,b<w.heap.size->(w.drew.alloc (.cells ((olds++rn).toArray++Builtin.zeroCells z.cells (grownCap w (n+m) c e - (n+m))) e)).heap[b]?=w.heap[b]?:=fun b hb=>fE w.drew _ hb
  have hsz:(w.drew.alloc (.cells ((olds++rn).toArray++Builtin.zeroCells z.cells (grownCap w (n+m) c e - (n+m))) e)).heap.size=w.heap.size+1:=dJ w.drew _
  have oall:OW (dY E fp w) w.heap dG (cs++ws) (olds++rn) []:=h3.append hwn
  have ho2:=oall.stable (F':=dY E fp w) (R':=dG) (fun b hb=>by cases hb) (fun b hb=>⟨hb,old b hb.1⟩) (fun _ _ h=>h)
  have hT:=vH ho2 (by rw [bD,h6,hol,hrl,lg]) hzs (grownCap_ge w (n+m) c e) (grownCap_le_maxLen w (n+m) c e hm) (iy w.drew _ rfl)
  obtain ⟨q1,q2,q3⟩:=hr.make hfr (w':=w.drew.alloc (.cells ((olds++rn).toArray++Builtin.zeroCells z.cells (grownCap w (n+m) c e - (n+m))) e)) (by omega) rfl rfl rfl old hT (fun b hb=>by
   rcases zl011.1 hb with rfl|h
   ·exact ⟨bg _,by rw [hsz];exact Cb _⟩
   ·cases h) (by simp) (by simp)
  exact ⟨_,_,q1,dB rfl (zB (st':=Lk.upd st [.put fr (.osl i.size (n+m) (cs++ws))]) (loc':=fun j=>if j=fr then _ else loc j) hT (by simp [Lk.upd]) (by simp))⟩
 have none_:n=0->c=0->cs=[]->∃r w',(Builtin.append_ #[t,tx] ty #[.slice a' n c,ry]).run P w=.ok r w'/\After E (fr+1) sl st [.put fr (.osl i.size (n+m) (cs++ws))] (.ref fr [] i.size 0 (n+m)) r a w':=by
  intro hn0 hc0 hcs
  subst hn0 hc0 hcs
  have hfc:(Builtin.firstCells i.size 0 (.slice a' 0 0)).run P w.drew=.ok ([]:List Value).toArray w.drew:=by
   cases a' with
   | none=>exact run_firstCells_none _ _ _ _ _
   | some a'=>exact run_firstCells_some (P:=P) w.drew i.size 0 a' 0 0 [] (Nat.zero_mul _).symm (fun j v hj=>absurd hj (by simp))
  exact cpy hfc (by omega) .nil (by simp)
 obtain ⟨fs,hfs⟩:∃fs,fp id=fs:=⟨_,rfl⟩
 rw [hfs] at ho
 cases ho with
 | leaf _ h2=>exact absurd rfl (h2 _ _ _)
 | osl0 =>
  obtain ⟨r,w',q1,q2⟩:=none_ rfl (by rcases b2 with ⟨_,a3,b3⟩|⟨g,oo,c',_,b3,b4,b5,b6⟩<;>cases b3<;>omega) rfl
  exact ⟨r,w',q1,.inr q2⟩
 | @osl _ _ _ _ g oo _ cur e5 rvs f3 _ _ _ g1 g2 g3 g4 g5 g6 g7 g8 =>
  cases g8
  have g7':OW (dY E fp w) w.heap dG cs rvs []:=OW.flatL g7 hcf
  by_cases hcap0:c=0
  ·obtain rfl:n=0:=by omega
   obtain ⟨r,w',q1,q2⟩:=none_ rfl hcap0 (iU (by rw [g2,Nat.zero_mul]))
   exact ⟨r,w',q1,.inr q2⟩
  ·rcases b2 with ⟨rfl,a3,b3⟩|⟨g',oo',c',b0,b3,b4,b5,b6⟩
   ·cases b3;exact absurd rfl hcap0
   cases b0
   cases b3
   rw [Nat.add_zero] at *
   rw [Nat.zero_add] at b4
   have hgid:g∈fp id:=by rw [hfs];simp
   by_cases hroom:n+m<=c
   ·
    have hfit:oo+n*i.size+rn.length<=cur.size:=by
     rw [hrl]
     have:n*i.size+m*i.size<=c*i.size:=by rw [<- lg];exact Af _ hroom
     omega
    have hrun:=run_append_room_src (P:=P) w t tx ty e i ht hi g oo n c ry m rn T.src.toSrc hroom
     (fun j hj=>by rw [jZ];simp only [cellAt,g1];simp;omega) (fun j hj=>by unfold World.frozen?;simp [g1])
    obtain ⟨cur',d1,d2,d3⟩:=qE g rn (oo+n*i.size) w cur _ g1
    obtain ⟨m1,m2,m3,m4⟩:=qG g rn (oo+n*i.size) w
    have oth:=o8 g rn (oo+n*i.size) w
    generalize w.setCells g (oo+n*i.size) rn=w' at *
    refine ⟨_,_,hrun,.inl ?_⟩
    have ohp:∀b,b≠g->w'.heap[b]?=w.heap[b]?:=oth
    have oall:OW (dY E fp w) w'.heap dG (cs++ws) (rvs++rn) []:=(g7'.append hwn).stable (fun b hb=>by cases hb) (fun b hb=>⟨hb,ohp b (fun e=>by subst e;exact hb.2.2 id hgid)⟩) (fun _ _ h=>h)
    have lall:(cs++ws).length=(n+m)*i.size:=by rw [bD,g2,hol,hrl,lg]
    have hcells:rvs++rn=(cur'.toList.drop oo).take (cs++ws).length:=by
     rw [lall,d2,g3,g2]
     have key:∀ (vs l:List Value) (k:Nat),k+vs.length<=l.length->(dA l k vs).take (k+vs.length)=l.take k++vs:=by
      intro vs
      induction vs with
      | nil=>intro l k _;simp [dA]
      | cons v vs ih =>
       intro l k h
       simp only [List.length_cons] at h
       rw [dA,List.length_cons,show k+(vs.length+1)=(k+1)+vs.length by omega,ih _ (k+1) (by simp;omega)]
       rw [List.take_set,SK (by omega),NQ _ _ (by simp;omega)]
       simp [show min k l.length=k by omega]
     have h1:=nU cur.toList oo (cur.size - oo) rn (n*i.size)
     have h2:∀l:List Value,l.length=cur.size->((l.drop oo).take (cur.size - oo))=l.drop oo:=fun l hl=>kD (by simp;omega)
     rw [h2 _ (by rw [rF];simp),h2 _ (by simp)] at h1
     rw [h1]
     have h3:=key rn (cur.toList.drop oo) (n*i.size) (by simp;omega)
     rw [<- h3,hrl,lg]
    have main:=hr.step (fun _=>True) hr.all (fun j=>j=id) (N':=fr+1) (st':=Lk.upd st [.put id (.osl i.size (n+m) (cs++ws))]) (loc':=fun j=>if j=id then .slice (some ⟨g,oo,none⟩) (n+m) cap else loc j) (fp':=fun j=>if j=id then [g] else fp j) (w':=w') (by omega) (by omega) m2 m3 m4
     (fun b hb hX=>ohp b (fun e=>by subst e;exact hX id rfl hgid)) ?_ ?_ ?_ ?_ ?_ ?_ ?_ ?_
    ·refine ⟨_,_,main.1,dB rfl ?_⟩
     refine ⟨by omega,by simp,⟨_,c,rfl,hroom,fun _=>⟨g,oo,rfl⟩⟩,by simp [Lk.upd,aB],fun sz' m' cs' hg=>?_⟩
     simp only [Lk.upd,if_true,aB,HV.osl.injEq] at hg
     obtain ⟨rfl,rfl,rfl⟩:=hg
     exact ⟨rfl,_,cap,by simp [dF],.inr ⟨g,oo,c,rfl,by simp,by simpa using b4,hroom,b6⟩⟩
    ·intro j hj
     exact ⟨by simp only [Lk.upd,if_neg hj],by simp only [if_neg hj],by simp only [if_neg hj]⟩
    ·intro hfz j hj _
     subst hj
     simp only [Lk.upd,if_true]
     have:=OW.osl (F:=dY E fp w) (h:=w'.heap) (R:=dG) (sz:=i.size) (n:=n+m) (off:=oo) (cap:=cap) d1 lall hcells (by omega) (by omega) g6 oall (.nil)
     exact this.stable (fun _ _=>rfl) (fun b hb=>⟨(hfz b hb).1,rfl⟩) (fun _ _ h=>h)
    ·intro j hj hd;subst hj;simp [Lk.upd] at hd
    ·intro j hj hd;subst hj;omega
    ·intro j hj b hb
     subst hj
     simp at hb
     subst hb
     exact .inr ⟨_,rfl,hgid⟩
    ·intro j hj;subst hj;simp
    ·intro j k hj hk hjk;exact absurd (hj.trans hk.symm) hjk
    ·intro v rv j hv _ hj hX
     subst hX
     cases v<;>simp only [fF,cO,reduceCtorEq] at hj<;>subst hj
     ·rename_i p sz off n'
      obtain ⟨k1,k2,k3,k4,k5⟩:=hv
      refine ⟨by omega,k2,k3,?_,?_⟩
      ·match p,k2 with
       | [],_=>simp [Lk.upd,aB]
       | q::r,_ =>
        intro cs' hq
        simp only [Lk.upd,if_true] at hq
        exact uX (show aV (cs++ws)=true by simp [aV] at hcf hwf ⊢;exact ⟨hcf,hwf⟩) _ _ q r (by rw [hq];trivial)
      ·match p,k2 with
       | [],_ =>
        intro sz' m' cs' hq
        simp only [Lk.upd,if_true,aB,HV.osl.injEq] at hq
        obtain ⟨rfl,rfl,rfl⟩:=hq
        obtain ⟨r1,a9,cap9,r2,r3⟩:=k5 _ _ _ (by rw [aB];exact hst)
        rw [b1] at r2
        cases r2
        exact ⟨r1,_,_,by simp [dF],r3⟩
       | q::r,_ =>
        intro sz' m' cs' hq
        simp only [Lk.upd,if_true] at hq
        exact absurd (show isNode _ by rw [hq];trivial) (uX (show aV (cs++ws)=true by simp [aV] at hcf hwf ⊢;exact ⟨hcf,hwf⟩) _ _ q r)
     ·rename_i p off
      obtain ⟨k1,k2,k3,k4⟩:=hv
      refine ⟨by omega,k2,k3,?_⟩
      match p,k2 with
      | [],_ =>
       intro _
       obtain ⟨rvn,g9,o9,r1,r2,r3⟩:=k4 (by rw [aB,hst];trivial)
       rw [b1] at r1
       cases r1
       exact ⟨.slice (some ⟨g,oo,none⟩) (n+m) cap,g9,o9,by simp [dF],by simpa [lq] using r2,r3⟩
      | q::r,_ =>
       intro hq
       exfalso
       simp only [Lk.upd,if_true] at hq
       exact uX (show aV (cs++ws)=true by simp [aV] at hcf hwf ⊢;exact ⟨hcf,hwf⟩) _ _ q r hq.node
     ·rename_i p
      obtain ⟨k1,k2,k3,k4,k5⟩:=hv
      refine ⟨by omega,k2,k3,?_,?_⟩
      ·match p,k2 with
       | [],_=>simp [Lk.upd,aB]
       | q::r,_ =>
        intro cs' hq
        simp only [Lk.upd,if_true] at hq
        exact uX (show aV (cs++ws)=true by simp [aV] at hcf hwf ⊢;exact ⟨hcf,hwf⟩) _ _ q r (by rw [hq];trivial)
      ·match p,k2 with
       | [],_ =>
        intro hq
        simp only [Lk.upd,if_true,aB] at hq
        exact hq.elim
       | q::r,_ =>
        intro hq
        exfalso
        simp only [Lk.upd,if_true] at hq
        exact uX (show aV (cs++ws)=true by simp [aV] at hcf hwf ⊢;exact ⟨hcf,hwf⟩) _ _ q r hq.node
   ·have hrv:rvs=(cur.toList.drop oo).take (n*i.size):=by rw [g3,g2]
    have hfc:(Builtin.firstCells i.size n (.slice (some ⟨g,oo,none⟩) n c)).run P w.drew=.ok rvs.toArray w.drew :=
     run_firstCells_some (P:=P) w.drew i.size n _ n c _ (by rw [<- g7'.length,g2]) (by simpa using cells_at g1 (o:=oo) (off:=0) (by simpa using hrv))
    obtain ⟨r,w',q1,q2⟩:=cpy hfc (by omega) g7' g2
    exact ⟨r,w',q1,.inr q2⟩
theorem WG {o:Oper} {flat:Bool} {sz bytes:Nat} {x y:HX} (h:aT P o=.app flat sz bytes x y):∃c s v t tx e e' i z,o.op=.call c/\c.callee=.builtin .append/\c.args.toList=[s,v]/\c.argTypes.toList=[t,tx]/\P.underlying t=some (.slice e)/\P.underlying tx=some (.slice e')/\P.info? e=some i/\i.zero=some z/\z.cells.size=i.size /\
  sz=i.size/\bytes=i.bytes/\x=dZ s/\y=dZ v:=by
 unfold aT at h
 repeat' split at h
 all_goals (first|(cases h;done)|(unfold yh at h;split at h<;>(cases h;done))|(unfold qN at h;split at h<;>(cases h;done))|skip)
 cases h
 exact ⟨_,_,_,_,_,_,_,_,_,‹_›,‹_›,‹_›,‹_›,‹_›,‹_›,‹_›,‹_›,‹_›,rfl,rfl,rfl,rfl⟩
theorem SRel.same {s s':St} (h:SRel E N s a w) (h1:s.S=s'.S) (h2:s.M=s'.M):SRel E N s' a w:=by
 obtain ⟨loc,fp,h⟩:=h
 exact ⟨loc,fp,h1▸h2▸h⟩
end
section
variable {P:Program} {all r:List af} {i:Nat} {k:List HI} {rs:List Nat} {K:HV->Prop} {sl sl1 sl' st:List (Nat×HV)} {nx:Nat} {x y:HX} {t id sz bytes n m fr q:Nat} {cs ws cs':List HV} {v:HV} {sd:Prop}
theorem UG {P:Program} {s:St} {i:Nat} {d:Option Nat} {op:HOp HX} {f:FuncId} {vs ts:List HV} {us:List Upd} {sd:Prop} {io ids:List Nat} {K':HV->List HV->Prop} {K:St->Prop} (hc:vJ s op=some (f,vs)) (ht:aN s.M vs=(ts,us,sd)) (hs:sd) (hio:(io.map (fun j=>vs[j]?)=ids.map fun id=>some (HV.pref id [] 0))) (hids:ids.Nodup) (hC:HTI P f ts io K')
  (h:∀v outs,K' v outs->outs.length=ids.length->(unpack (s.nx+stride*i) v).2.2<=s.nx+stride*(i+1)/\K ((s.upd (us++kills ids++oz ids outs++(unpack (s.nx+stride*i) v).2.1)).put d (unpack (s.nx+stride*i) v).1)):rZ P s i d op K:=by
 intro E ro a w next Q hd ho hr hn
 have h0:(s.M:Lk)=St.M { s with nx:=s.nx+stride*i }:=rfl
 have e1:ro.wp P a w next Q=({ ro with guard:=none }:Oper).wp P a w next Q:=rfl
 rw [e1]
 refine yE (s:={ s with nx:=s.nx+stride*i }) (K:=fun s1=>s1.nx<=s.nx+stride*(i+1)/\K { s1 with nx:=s.nx }) hr ?_ ?_
 ·have ht':(bf P E.ok { ro with guard:=none }).op=op:=by rw [<- ho];rfl
  have hd':(bf P E.ok { ro with guard:=none }).dst=d:=hd
  refine ⟨rfl,f,vs,io,ids,by rw [ht'];exact hc,by rw [<- h0,ht];exact hs,hio,hids,?_⟩
  rw [<- h0,ht,hd']
  refine hC.mono fun v outs hv hl=>?_
  obtain ⟨h1,h2⟩:=h v outs hv hl
  refine ⟨h1,?_⟩
  have e2:∀ (us:List Upd) (d:Option Nat) (v:HV) (n:Nat),({ ((St.upd { s with nx:=s.nx+stride*i } us).put d v) with nx:=n }:St)={ ((s.upd us).put d v) with nx:=n }:=by
   intro us d v n
   have:∀ (us:List Upd) (s:St) (m:Nat),St.upd { s with nx:=m } us={ s.upd us with nx:=m }:=by
    intro us
    induction us with
    | nil=>intro s m;rfl
    | cons u us ih =>
     intro s m
     cases u with
     | put id t=>exact ih { s with st:=tZ id t s.st } m
     | kill id len=>exact ih { s with sl:=s.sl.map fun p=>(p.1,p.2.kill id len) } m
   rw [this]
   cases d<;>rfl
  have e3:∀ (us:List Upd) (d:Option Nat) (v:HV),({ ((s.upd us).put d v) with nx:=s.nx }:St)=(s.upd us).put d v:=by
   intro us d v
   have h4:=St.put_nx (s.upd us) d v
   rw [St.upd_nx] at h4
   rw [<- h4]
  show K { ({ ((St.upd { s with nx:=s.nx+stride*i } (us++kills ids++oz ids outs++(unpack (s.nx+stride*i) v).2.1)).put d (unpack (s.nx+stride*i) v).1) with nx:=(unpack (s.nx+stride*i) v).2.2 }:St) with nx:=s.nx }
  rw [e2]
  show K { ((s.upd _).put d _) with nx:=s.nx }
  rw [e3]
  exact h2
 ·rintro s1 a' w' ⟨h1,h2⟩ hr'
  refine hn { s1 with nx:=s.nx } a' w' rfl (SRel.same (hr'.up h1) rfl rfl) h2
theorem TK [ok:Ok (HS P) k] {d:Option Nat} {op:HOp HX} {f:FuncId} {vs ts:List HV} {us:List Upd} {io ids:List Nat} {K':HV->List HV->Prop} (hc:vJ ⟨sl,st,nx⟩ op=some (f,vs)) (ht:aN (fun j=>ax j st) vs=(ts,us,sd)) (hs:sd) (hio:(io.map (fun j=>vs[j]?)=ids.map fun id=>some (HV.pref id [] 0))) (hids:ids.Nodup) (hC:HTI P f ts io K')
  (h:∀v outs,K' v outs->outs.length=ids.length->∃v' us' n2 sl' st',unpack (nx+stride*i) v=(v',us',n2)/\n2<=nx+stride*(i+1)/\Bz d v' (uT sl st (us++kills ids++oz ids outs++us'))=(sl',st')/\G P (HS P) all r (i+1) k rs K sl' st' nx):G P (HS P) all (⟨d,op,none⟩::r) i k rs K sl st nx:=by
 refine rE (UG (s:=⟨sl,st,nx⟩) hc ht hs hio hids hC ?_)
 intro v outs hv hl
 obtain ⟨v',us',n2,sl',st',h2,h3,h4,h5⟩:=h v outs hv hl
 show (unpack (nx+stride*i) v).2.2<=nx+stride*(i+1)/\hx P _ _ ((St.upd ⟨sl,st,nx⟩ (us++kills ids++oz ids outs++(unpack (nx+stride*i) v).2.1)).put d (unpack (nx+stride*i) v).1)
 rw [h2]
 exact ⟨h3,kL ok.mono ok.plain (nV h4) h5⟩
theorem CE [ok:Ok (HS P) k] {d:Option Nat} {f:FuncId} {xs:List HX} {vs ts:List HV} {us:List Upd} (io ids:List Nat) {K':HV->List HV->Prop} (hvs:xs.map (ev sl)=vs) (ht:aN (fun j=>ax j st) vs=(ts,us,sd)) (hs:sd) (hio:(io.map (fun j=>vs[j]?)=ids.map fun id=>some (HV.pref id [] 0))) (hids:ids.Nodup) (hC:HTI P f ts io K')
  (h:∀v outs,K' v outs->outs.length=ids.length->∃v' us' n2 sl' st',unpack (nx+stride*i) v=(v',us',n2)/\n2<=nx+stride*(i+1)/\Bz d v' (uT sl st (us++kills ids++oz ids outs++us'))=(sl',st')/\G P (HS P) all r (i+1) k rs K sl' st' nx):G P (HS P) all (⟨d,.call f xs,none⟩::r) i k rs K sl st nx :=
 TK (by subst hvs;rfl) ht hs hio hids hC h
theorem GR [ok:Ok (HS P) k] {d:Option Nat} {f:FuncId} {x:HX} {cap:List HV} {xs:List HX} {vs ts:List HV} {us:List Upd} (io ids:List Nat) {K':HV->List HV->Prop} (hf:ev sl x=.fn f cap) (hvs:xs.map (ev sl)++cap=vs) (ht:aN (fun j=>ax j st) vs=(ts,us,sd)) (hs:sd) (hio:(io.map (fun j=>vs[j]?)=ids.map fun id=>some (HV.pref id [] 0))) (hids:ids.Nodup) (hC:HTI P f ts io K')
  (h:∀v outs,K' v outs->outs.length=ids.length->∃v' us' n2 sl' st',unpack (nx+stride*i) v=(v',us',n2)/\n2<=nx+stride*(i+1)/\Bz d v' (uT sl st (us++kills ids++oz ids outs++us'))=(sl',st')/\G P (HS P) all r (i+1) k rs K sl' st' nx):G P (HS P) all (⟨d,.callv x xs,none⟩::r) i k rs K sl st nx :=
 TK (by subst hvs;simp only [vJ,HOp.map,hf]) ht hs hio hids hC h
theorem ZE {P:Program} {o:Oper} {nz:Nat} {x:HX} (h:aT P o=.mv nz x):∃y,(o.op=.move y\/o.op=.assign y)/\x=dZ y:=by
 unfold aT at h
 repeat' split at h
 all_goals (first|(cases h;done)|(unfold yh at h;split at h<;>(cases h;done))|(unfold qN at h;split at h<;>(cases h;done))|skip)
 all_goals cases h
 ·exact ⟨_,.inl ‹_›,rfl⟩
 ·exact ⟨_,.inr ‹_›,rfl⟩
theorem aat {P:Program} {s:St} {i t nz:Nat} {x:HX} {K:St->Prop} (hx:ev s.sl x=.nils) (hK:K (s.put (some t) .nils)):rZ P s i (some t) (.mv nz x) K:=by
 intro E ro a w next Q hd ho hr hn
 have hdst:ro.dst=some t:=hd
 have hop:aT P ro=.mv nz x:=by
  unfold bf at ho
  by_cases h:(ro.dst.all fun d=>E.ok d)=true
  ·simpa [h] using ho
  ·simp [h] at ho
 have hok:E.ok t=true:=by
  unfold bf at ho
  by_cases h:(ro.dst.all fun d=>E.ok d)=true
  ·simpa [hdst] using h
  ·simp [h] at ho
 obtain ⟨y,hy,rfl⟩:=ZE hop
 obtain ⟨loc,fp,hr⟩:=hr
 have hv:=hr.val y
 rw [<- jl] at hv
 rw [hx] at hv
 have hrun:(execOp a.eval ro).run P w=.ok (.value (a.eval y)) w:=by
  obtain ⟨dst,op,type,pos,after,guard⟩:=ro
  rcases hy with h|h<;>(simp only at h;subst h;rfl)
 unfold Oper.wp
 rw [hrun]
 show next (a.put ro.dst (a.eval y)) w
 rw [hdst]
 have hA:After E (s.nx+stride*i) s.S s.M [] .nils (a.eval y) a w:=hr.pure (bg _) hv
 have h3:=SRel.done (s:=s) (d:=some t) hA (fun t' ht=>by cases ht;exact hok)
 exact hn (s.put (some t) .nils) _ _ (St.put_nx _ _ _) (h3.up (by unfold stride;omega)) hK
theorem aa3 [ok:Ok (HS P) k] {nz:Nat} (hx:ev sl x=.nils) (h:G P (HS P) all r (i+1) k rs K ((t,.nils)::sl) st nx):G P (HS P) all (⟨some t,.mv nz x,none⟩::r) i k rs K sl st nx:=by
 refine rE (aat (s:=⟨sl,st,nx⟩) hx ?_)
 refine kL ok.mono ok.plain ?_ h
 refine ⟨?_,rfl,rfl⟩
 funext j
 exact DL j t .nils sl
end
end Go.HL
end
section
namespace Go.HL
open Go.RowKit
open Go.ChangeMaps (setBlock)
section
variable {P:Program} {E:Fr} {N fr:Nat} {sl st:Lk} {loc:Nat->Value} {fp:Nat->List Nat} {a:Act} {w:World}
theorem Jg {o:Oper} {x:HX} (h:aT P o=.mrng x):∃t y k e,o.op=.range t y/\P.underlying t=some (.map k e)/\x=dZ y:=by
 unfold aT at h
 repeat' split at h
 all_goals (first|(cases h;done)|(unfold yh at h;split at h<;>(cases h;done))|(unfold qN at h;split at h<;>(cases h;done))|skip)
 cases h
 exact ⟨_,_,_,_,‹_›,‹_›,rfl⟩
theorem Jt {o:Oper} {x:HX} (h:aT P o=.mnxt x):∃y,o.op=.next y false/\x=dZ y:=by
 unfold aT at h
 repeat' split at h
 all_goals (first|(cases h;done)|(unfold yh at h;split at h<;>(cases h;done))|(unfold qN at h;split at h<;>(cases h;done))|skip)
 cases h
 exact ⟨_,‹_›,rfl⟩
theorem U6 {o:Oper} {x:HX} (h:aT P o=.ment x):∃y,o.op=.entry y/\x=dZ y:=by
 unfold aT at h
 repeat' split at h
 all_goals (first|(cases h;done)|(unfold yh at h;split at h<;>(cases h;done))|(unfold qN at h;split at h<;>(cases h;done))|skip)
 cases h
 exact ⟨_,‹_›,rfl⟩
theorem Gf {t k e:TypeId} (ht:P.underlying t=some (.map k e)) {g:Nat} {es:Array MapEntry} {ck:Nat} (hg:w.heap[g]?=some (.map es ck)) :
  (Instr.range t (.map (some g))).run P w=.ok (.pointer (some ⟨w.heap.size,0,none⟩)) (w.alloc (.mapIter (some g) ck #[] ck)):=by
 simp [Instr.range,run_underlying ht,MapKept.run_getObj_map hg,newObj,Sem.run,Result.andThen,go_sem]
theorem Hm {t k e:TypeId} (ht:P.underlying t=some (.map k e)) :
  (Instr.range t (.map none)).run P w=.ok (.pointer (some ⟨w.heap.size,0,none⟩)) (w.alloc (.mapIter none 0 #[] 0)):=by
 simp [Instr.range,run_underlying ht,newObj,Sem.run,Result.andThen,go_sem]
theorem KO {F:Nat->Prop} {h:Hp} {b s c:Nat} {l:List Nat} {rv:Value} {fs:List Nat} (o:OW F h dG [.oitr b s l c] [rv] fs):∃g,rv=.pointer (some ⟨g,0,none⟩)/\fs=[g]/\h[g]?=some (.mapIter (obk b) s l.toArray c):=by
 cases o with
 | leaf _ _ _ _ _ _ h1=>exact h1.elim
 | oitr a d=>cases d;exact ⟨_,rfl,by simp,a⟩
theorem P7 (hr:Rel E N sl st loc fp a w) (hfr:N<=fr) {t k e:TypeId} (ht:P.underlying t=some (.map k e)) {id:Nat} {p:List Nat} {rx:Value} (hx:V E N st loc fp w (.mref id p) rx) {m:MK} {ks cs:List HV} (hn:aB (st id) p=.omap m ks cs) :
  ∃r w' k0 bs ck,(Instr.range t rx).run P w=.ok r w'/\bs.length=ks.length/\bs.Nodup/\(∀b∈bs,b<ck) /\
   After E (fr+1) sl st [.put id (dI (.omap ⟨m.kind,some (k0,bs,ck)⟩ ks cs) (st id) p),.put fr (.oitr (k0+1) ck [] ck)] (.mref fr []) r a w':=by
 obtain ⟨hid,hp,_,_,h4⟩:=uu hx
 have hnode:isNode (aB (st id) p):=by rw [hn];trivial
 obtain ⟨rv',f1,f',f2,e1,e2,e3,e4,hnil,rep⟩:=(hr.tree id (dn hnode)).focus hp hnode
 have b1:=h4 (by rw [hn];trivial)
 rw [e1] at b1
 cases b1
 rw [hn] at e3
 have e30:=e3
 obtain ⟨g,es,ck,f3,rfl,q1,q2,rfl,q4⟩:=zl e3
 refine ⟨_,_,g,es.toList.map (·.born),ck,Gf ht q1,?_,q2.nodup,?_,?_⟩
 ·have:=congrArg List.length q2.keys
  simpa using this
 ·intro b hb
  obtain ⟨e,he,rfl⟩:=zl031.1 hb
  exact q2.lt e he
 have old:∀b,b<w.heap.size->(w.alloc (.mapIter (some g) ck #[] ck)).heap[b]?=w.heap[b]?:=fun b hb=>fE w _ hb
 have hsz:(w.alloc (.mapIter (some g) ck #[] ck)).heap.size=w.heap.size+1:=dJ w _
 have hnew:(w.alloc (.mapIter (some g) ck #[] ck)).heap[w.heap.size]?=some (.mapIter (some g) ck #[] ck):=iy w _ rfl
 have m2:(w.alloc (.mapIter (some g) ck #[] ck)).os=w.os:=rfl
 have m3:(w.alloc (.mapIter (some g) ck #[] ck)).tape=w.tape:=rfl
 have m4:(w.alloc (.mapIter (some g) ck #[] ck)).output=w.output:=rfl
 generalize w.alloc (.mapIter (some g) ck #[] ck)=w' at *
 have hsub:∀b∈g::f3,b<w.heap.size:=fun b hb=>hr.lt id b (by rw [e2];rcases zl011.1 hb with h|h<;>simp [h])
 have hfnd:(f1++(g::f3)++f2).Nodup:=by rw [<- e2];exact hr.nodup id
 have hnd3:(g::f3).Nodup:=by rw [zl006,zl006] at hfnd;exact hfnd.1.2.1
 have onode:OW (dY E fp w) w'.heap dG [.omap ⟨m.kind,some (g,es.toList.map (·.born),ck)⟩ ks cs] [.map (some g)] (g::f3):=by
  have:=OW.omap (F:=dY E fp w) (h:=w'.heap) (R:=dG) (m:=⟨m.kind,some (g,es.toList.map (·.born),ck)⟩) (ks:=ks) (cs:=cs) (by rw [old g (hsub g (by simp))];exact q1) ⟨q2.keys,q2.good,q2.lt,q2.nodup,.inr rfl⟩ (q4.stable (fun b hb=>old b (hsub b (by simp [hb]))) (fun b hb=>⟨hb,old b hb.1⟩) (fun _ _ h=>h)) .nil
  simpa using this
 have oit:OW (dY E fp w) w'.heap dG [.oitr (g+1) ck [] ck] [.pointer (some ⟨w.heap.size,0,none⟩)] [w.heap.size]:=by
  have:=OW.oitr (F:=dY E fp w) (h:=w'.heap) (R:=dG) (b:=g+1) (s:=ck) (l:=[]) (c:=ck) hnew .nil
  simpa using this
 have hidfr:id≠fr:=by omega
 have stus:∀j,Lk.upd st [.put id (dI (.omap ⟨m.kind,some (g,es.toList.map (·.born),ck)⟩ ks cs) (st id) p),.put fr (.oitr (g+1) ck [] ck)] j=if j=fr then .oitr (g+1) ck [] ck else if j=id then dI (.omap ⟨m.kind,some (g,es.toList.map (·.born),ck)⟩ ks cs) (st id) p else if j∈([]:List Nat) then .dead else st j:=fun j=>by
  simp [Lk.upd]
 have hcell:∀r',r'≠[]->r'.length<=2->(∃v,fF v=some id/\True/\((∃i sz o n,v=.ref i (p++r') sz o n)\/(∃i o,v=.pref i (p++r') o)\/∃i,v=.mref i (p++r'))) ->
   kind (aB (.omap ⟨m.kind,some (g,es.toList.map (·.born),ck)⟩ ks cs) r')=none\/(kind (aB (.omap ⟨m.kind,some (g,es.toList.map (·.born),ck)⟩ ks cs) r')=kind (aB (aB (st id) p) r')/\dF w'.heap (.map (some g)) r'=dF w.heap (.map (some g)) r'):=by
  intro r' hr' hl2 _
  cases r' with
  | nil=>exact absurd rfl hr'
  | cons j r' =>
   have he:aB (.omap ⟨m.kind,some (g,es.toList.map (·.born),ck)⟩ ks cs) (j::r')=aB (.omap m ks cs) (j::r'):=rfl
   rw [he,hn]
   by_cases hk:kind (aB (.omap m ks cs) (j::r'))=none
   ·exact .inl hk
   ·right
    refine ⟨rfl,?_⟩
    obtain ⟨rv2,g1,g2,g3,n1,n2,_,n4,_,_⟩:=e30.focus hl2 (kind_node.2 hk)
    rw [n1]
    exact (n4 w'.heap fun b hb=>old b (hsub b (by rw [n2];rcases zl003.1 hb with h|h<;>simp [h]))).1
 obtain ⟨loc',fp',r1,r2,r3,r4⟩:=hr.mod _ hr.all hfr (ids:=[]) (by simp) (by simp) hp hnode e1 e2 e4 hnil rep stus (by omega) m2 m3 m4
  (fun b hb _ _=>old b hb) onode (.inr (by rw [hn];rfl)) (fun h=>by cases h) oit (fun h=>by cases h)
  (fun b hb=>by
   rcases zl003.1 hb with h|h
   ·exact .inr (.inr h)
   ·simp at h;subst h;exact .inl ⟨bg _,by omega⟩)
  (by
   rw [zl006]
   exact ⟨hnd3,by simp,fun x hx y hy e=>by simp at hy;subst hy;have:=hsub x hx;omega⟩) hcell
 refine ⟨loc',fp',r1,dB rfl ⟨by omega,by simp,⟨_,.inr rfl⟩,?_,fun _=>by simp [dF,r2]⟩⟩
 simp [aB,Lk.upd]
theorem Oq (hr:Rel E N sl st loc fp a w) (hfr:N<=fr) {t k e:TypeId} (ht:P.underlying t=some (.map k e)) :
  ∃r w',(Instr.range t (.map none)).run P w=.ok r w'/\After E (fr+1) sl st [.put fr (.oitr 0 0 [] 0)] (.mref fr []) r a w':=by
 refine ⟨_,_,Hm ht,?_⟩
 have hT:=OW.oitr (F:=dY E fp w) (h:=(w.alloc (.mapIter none 0 #[] 0)).heap) (R:=dG) (b:=0) (s:=0) (l:=[]) (c:=0) (iy w _ rfl) .nil
 obtain ⟨loc',fp',q1,q2,q3,q4⟩:=hr.build (ids:=[]) (us:=[]) (w':=w.alloc (.mapIter none 0 #[] 0)) (T:=.oitr 0 0 [] 0) (rT:=.pointer (some ⟨w.heap.size,0,none⟩)) (fT:=[w.heap.size]) hfr (by simp) (by simp [Lk.upd]) (fun _=>rfl) (by rw [dJ];omega) rfl rfl rfl (fun b hb _=>fE _ _ hb) (by simpa using hT) (by simp [dJ]) (by simp) (by simp)
 exact ⟨loc',fp',q1,dB rfl ⟨by omega,by simp,⟨_,.inr rfl⟩,by simp [aB,Lk.upd],fun _=>by simp [dF,q2]⟩⟩
theorem Xx {F:Nat->Prop} {h:Hp} {R:HV->Value->Prop} {kk:KK} {k:HV} (hg:dO kk k=true):OW F h R [k] [kv k] []:=by
 cases kk<;>cases k<;>simp only [dO,Bool.false_eq_true] at hg
 ·exact .int .nil
 ·exact .str .nil
 ·simp only [bC] at hg
  obtain ⟨l,rfl⟩:=uk hg.2
  rw [wL]
  have hl:∀l:List Int,OW F h R (l.map (HV.int .i64)) (l.map (Value.int .i64)) []:=fun l=>by
   induction l with
   | nil=>exact .nil
   | cons n l ih=>exact .int ih
  have:=OW.agg (hl l) .nil
  simpa using this
theorem Qa (hr:Rel E N sl st loc fp a w) (hfr:N<=fr) {ty:TypeId} {iid id k0 since last ck:Nat} {p:List Nat} {seen bs:List Nat} {rx:Value} {kd:KK} {ks cs:List HV} (hx:V E N st loc fp w (.mref iid []) rx) (hit:st iid=.oitr (k0+1) since seen last)
  (hp:p.length<=2) (hn:aB (st id) p=.omap ⟨kd,some (k0,bs,ck)⟩ ks cs) (hold:∀b∈bs,b<since) (hsc:since<=last) :
  ∃r w',(Instr.next rx false ty).run P w=.ok r w' /\
   (((∀b∈bs,b∈seen)/\After E (fr+1) sl st [] (.tup [.bool false]) r a w') \/
    ∃j,j<ks.length/\j<cs.length/\bs.getD j 0 ∉ seen/\After E (fr+1) sl st [.put iid (.oitr (k0+1) since (seen++[bs.getD j 0]) ck)] (.tup [.bool true,ks.getD j .dead,look id p j (cs.getD j .dead)]) r a w'):=by
 obtain ⟨hidN,_,_,_,h4⟩:=uu hx
 have b1:=h4 (by rw [aB,hit];trivial)
 simp only [dF,cO] at b1
 subst b1
 have hti:=hr.tree iid (by rw [hit];simp)
 rw [hit] at hti
 obtain ⟨gi,hli,hfi,hgi⟩:=KO hti
 have hnode:isNode (aB (st id) p):=by rw [hn];trivial
 have hmd:=dn hnode
 obtain ⟨rv',f1,f',f2,e1,e2,e3,e4,hnil,rep⟩:=(hr.tree id hmd).focus hp hnode
 rw [hn] at e3
 obtain ⟨g,es,ck',f3,rfl,q1,q2,rfl,q4⟩:=zl e3
 have hpin:(some (k0,bs,ck):Option (Nat×List Nat×Nat))=some (g,es.toList.map (·.born),ck'):=by
  rcases q2.pin with h|h
  ·cases h
  ·exact h
 simp only [cO,jR] at hpin
 obtain ⟨rfl,rfl,rfl⟩:=hpin
 have hne:iid≠id:=fun e=>by
  subst e
  rw [hit] at hn
  cases p<;>simp [aB] at hn
 have hid:id<N:=by
  rcases iE id N with h|h
  ·exact h
  ·exact absurd (hr.new id h) hmd
 have hold':∀x∈es.toList,x.born<since:=fun x hx=>hold _ (zl031.2 ⟨x,hx,rfl⟩)
 rw [hli]
 rcases run_next_at (P:=P) w ty gi k0 since last seen.toArray es ck (by simpa [obk] using hgi) q1 hold' hsc with ⟨hd,hrun⟩|⟨e,he,w1,hw1,hrun⟩
 ·refine ⟨_,w,hrun,.inl ⟨fun b hb=>?_,?_⟩⟩
  ·obtain ⟨x,hx,rfl⟩:=zl031.1 hb
   have h0:leftOf es seen.toArray=#[]:=Array.eq_empty_of_size_eq_zero hd
   unfold leftOf at h0
   rw [Array.filter_eq_empty_iff] at h0
   have:=h0 x (by simpa using hx)
   simpa using this
  ·exact hr.pure (by omega) (by simpa using OW.tup (OW.bool (b:=false) .nil) .nil)
 ·have hmem:e∈es.toList/\e.born ∉ seen:=by
   unfold leftOf at he
   simpa using he
  obtain ⟨j,hj⟩:=List.mem_iff_getElem?.1 hmem.1
  have hjl:j<es.toList.length:=(zl036.1 hj).1
  have hkl:es.toList.length=ks.length:=by simpa using congrArg List.length q2.keys
  have hcl:cs.length=es.toList.length:=by simpa using q4.length
  have hbj:(es.toList.map (·.born)).getD j 0=e.born:=by
   simp only [bH,jd,hj,iq,kC]
  refine ⟨_,_,hrun,.inr ⟨j,by omega,by omega,by rw [hbj];exact hmem.2,?_⟩⟩
  rw [hbj]
  have hr1:Rel E N sl st loc fp a w1:=by
   rcases hw1 with rfl|rfl
   ·exact hr
   ·exact hr.drew _
  have hh1:w1.heap=w.heap:=by rcases hw1 with rfl|rfl<;>rfl
  have hgi1:w1.heap[gi]?=some (.mapIter (some k0) since seen.toArray last):=by rw [hh1];simpa [obk] using hgi
  have hx1:V E N st loc fp w1 (.mref iid []) (loc iid):=dB rfl ⟨hidN,by simp,⟨gi,.inr hli⟩,by rw [aB,hit];simp,fun _=>rfl⟩
  have d1:(setBlock w1 gi (.mapIter (some k0) since (seen.toArray.push e.born) ck)).heap[gi]?=some (.mapIter (some k0) since (seen.toArray.push e.born) ck):=(MapKept.heap_set hgi1).1
  have oth:∀b,b≠gi->(setBlock w1 gi (.mapIter (some k0) since (seen.toArray.push e.born) ck)).heap[b]?=w1.heap[b]?:=fun b hb=>(MapKept.heap_set hgi1).2 b hb
  have m1:(setBlock w1 gi (.mapIter (some k0) since (seen.toArray.push e.born) ck)).heap.size=w1.heap.size:=by simp [setBlock]
  have m2:(setBlock w1 gi (.mapIter (some k0) since (seen.toArray.push e.born) ck)).os=w1.os:=rfl
  have m3:(setBlock w1 gi (.mapIter (some k0) since (seen.toArray.push e.born) ck)).tape=w1.tape:=rfl
  have m4:(setBlock w1 gi (.mapIter (some k0) since (seen.toArray.push e.born) ck)).output=w1.output:=rfl
  generalize setBlock w1 gi (.mapIter (some k0) since (seen.toArray.push e.born) ck)=w' at *
  have oit:OW (dY E fp w1) w'.heap dG [.oitr (k0+1) since (seen++[e.born]) ck] [loc iid] [gi]:=by
   have:=OW.oitr (F:=dY E fp w1) (h:=w'.heap) (R:=dG) (b:=k0+1) (s:=since) (l:=seen++[e.born]) (c:=ck) (by rw [d1];simp [obk]) .nil
   rw [hli]
   simpa using this
  have stus:∀i,Lk.upd st [.put iid (.oitr (k0+1) since (seen++[e.born]) ck)] i=if i=fr then .dead else if i=iid then dI (.oitr (k0+1) since (seen++[e.born]) ck) (st iid) [] else if i∈([]:List Nat) then .dead else st i:=fun i=>by
   have:iid≠fr:=by omega
   simp only [Lk.upd,dI]
   by_cases h1:i=iid
   ·simp [h1,this]
   ·by_cases h2:i=fr
    ·subst h2;simp [h1,hr.new i hfr]
    ·simp [h1,h2]
  obtain ⟨loc',fp',r1,r2,r3,r4⟩:=hr1.mod _ hr1.all hfr (ids:=[]) (id0:=iid) (p:=[]) (by simp) (by simp) (by simp) (by rw [aB,hit];trivial) (rv':=loc iid) (f1:=[]) (f':=fp iid) (f2:=[]) rfl (by simp)
   (fun h' _=>⟨rfl,fun q _ _ hq=>absurd List.nil_prefix hq⟩) (by simp) (fun F' h' t'' f'' _ _ on=>by simpa [dI] using on) stus (by omega) m2 m3 m4
   (fun b _ _ hb=>oth b (fun e=>hb (by rw [hfi];simp [e]))) oit (.inr (by rw [aB,hit];rfl)) (fun h=>by cases h) (.dead .nil:OW (dY E fp w1) w'.heap dG [.dead] [undef] []) (fun _=>rfl)
   (fun b hb=>by rw [hfi];exact .inr (.inr (by simpa using hb))) (by simp)
   (fun r hr0 _ _=>.inl (by cases r with|nil=>exact absurd rfl hr0|cons _ _=>rfl))
  refine ⟨loc',fp',r1,?_⟩
  obtain ⟨rv,g1,g2,g3,k1,k2,k3,_⟩:=q4.at j (by omega)
  rw [jd,hj] at k1
  simp only [iq,cO] at k1
  subst k1
  have lk:OW (dY E fp w) w.heap (RefR N st loc w.heap) [look id p j (cs.getD j .dead)] [e.val] []:=k3.look hid hp (fun _ _ h=>h.elim) ⟨by rw [pz,hn];simp [aB],by
   rw [vU e1]
   have hj2:es[j]?=some e:=by simpa using hj
   simp only [dF,lq,Nat.zero_add]
   rw [AV q1,hj2];rfl⟩
  have hkey:e.key=kv (ks.getD j .dead):=by
   have h1:(es.toList.map (·.key))[j]?=(ks.map kv)[j]?:=by rw [q2.keys]
   have hjk:j<ks.length:=by omega
   rw [jd,hj,jd,bM hjk] at h1
   simp only [iq,cO] at h1
   rw [h1];simp [hjk]
  have hgk:dO kd (ks.getD j .dead)=true:=by
   have hjk:j<ks.length:=by omega
   have:=zl021.1 q2.good _ (gy hjk)
   simpa [hjk] using this
  have lk':=lk.stable (F':=dY E fp' w') (h':=w'.heap) (R':=RefR (fr+1) (Lk.upd st [.put iid (.oitr (k0+1) since (seen++[e.born]) ck)]) loc' w'.heap) (by simp) (fun b hb=>by
   have hb1:dY E fp w1 b:=by unfold dY at hb ⊢;rw [hh1];exact hb
   have:=r3 b hb1
   rw [<- hh1];exact this) (fun v rv hv=>r4 v rv (by rw [hh1];exact hv) trivial)
  have key':OW (dY E fp' w') w'.heap (RefR (fr+1) (Lk.upd st [.put iid (.oitr (k0+1) since (seen++[e.born]) ck)]) loc' w'.heap) [ks.getD j .dead] [e.key] []:=by rw [hkey];exact Xx hgk
  have:=OW.tup ((OW.bool (b:=true) .nil:OW (dY E fp' w') w'.heap (RefR (fr+1) (Lk.upd st [.put iid (.oitr (k0+1) since (seen++[e.born]) ck)]) loc' w'.heap) [.bool true] [.bool true] []).append (key'.append lk')) .nil
  simpa using this
theorem OH (hr:Rel E N sl st loc fp a w) (hfr:N<=fr) {ty:TypeId} {iid since last:Nat} {seen:List Nat} {rx:Value} (hx:V E N st loc fp w (.mref iid []) rx) (hit:st iid=.oitr 0 since seen last) :
  ∃r,(Instr.next rx false ty).run P w=.ok r w/\After E (fr+1) sl st [] (.tup [.bool false]) r a w:=by
 obtain ⟨hidN,_,_,_,h4⟩:=uu hx
 have b1:=h4 (by rw [aB,hit];trivial)
 simp only [dF,cO] at b1
 subst b1
 have hti:=hr.tree iid (by rw [hit];simp)
 rw [hit] at hti
 obtain ⟨gi,hli,hfi,hgi⟩:=KO hti
 rw [hli]
 refine ⟨.tuple #[.bool false],?_,hr.pure (by omega) (by simpa using OW.tup (OW.bool (b:=false) .nil) .nil)⟩
 simp [Instr.next,getObj,Sem.run,hgi,obk,Result.andThen,go_sem]
theorem QE (hr:Rel E N sl st loc fp a w) (hfr:N<=fr) {iid id k0 since j ck:Nat} {p:List Nat} {seen bs:List Nat} {rx:Value} {kd:KK} {ks cs:List HV} (hx:V E N st loc fp w (.mref iid []) rx) (hit:st iid=.oitr (k0+1) since (seen++[bs.getD j 0]) ck)
  (hp:p.length<=2) (hn:aB (st id) p=.omap ⟨kd,some (k0,bs,ck)⟩ ks cs) (hj:j<ks.length) :
  ∃r,(Instr.entry rx).run P w=.ok r w/\After E (fr+1) sl st [] (.tup [ks.getD j .dead,look id p j (cs.getD j .dead)]) r a w:=by
 obtain ⟨hidN,_,_,_,h4⟩:=uu hx
 have b1:=h4 (by rw [aB,hit];trivial)
 simp only [dF,cO] at b1
 subst b1
 have hti:=hr.tree iid (by rw [hit];simp)
 rw [hit] at hti
 obtain ⟨gi,hli,hfi,hgi⟩:=KO hti
 have hnode:isNode (aB (st id) p):=by rw [hn];trivial
 have hmd:=dn hnode
 obtain ⟨rv',f1,f',f2,e1,e2,e3,e4,hnil,rep⟩:=(hr.tree id hmd).focus hp hnode
 rw [hn] at e3
 obtain ⟨g,es,ck',f3,rfl,q1,q2,rfl,q4⟩:=zl e3
 have hpin:(some (k0,bs,ck):Option (Nat×List Nat×Nat))=some (g,es.toList.map (·.born),ck'):=by
  rcases q2.pin with h|h
  ·cases h
  ·exact h
 simp only [cO,jR] at hpin
 obtain ⟨rfl,rfl,rfl⟩:=hpin
 have hid:id<N:=by
  rcases iE id N with h|h
  ·exact h
  ·exact absurd (hr.new id h) hmd
 have hkl:es.toList.length=ks.length:=by simpa using congrArg List.length q2.keys
 have hcl:cs.length=es.toList.length:=by simpa using q4.length
 have hjl:j<es.toList.length:=by omega
 have hbj:(es.toList.map (·.born)).getD j 0=es.toList[j].born:=by
  simp only [bH,jd,bM hjl,iq,kC]
 have he:es.toList[j]∈es.toList:=gy hjl
 rw [hli]
 refine ⟨_,run_entry_at w gi k0 since seen.toArray es ck es.toList[j] (by rw [hgi,hbj];simp [obk]) q1 he q2.nodup,hr.pure (by omega) ?_⟩
 have hjj:es.toList[j]?=some es.toList[j]:=bM hjl
 generalize es.toList[j]=e at *
 obtain ⟨rv,g1,g2,g3,k1,k2,k3,_⟩:=q4.at j (by omega)
 rw [jd,hjj] at k1
 simp only [iq,cO] at k1
 subst k1
 have lk:OW (dY E fp w) w.heap (RefR N st loc w.heap) [look id p j (cs.getD j .dead)] [e.val] []:=k3.look hid hp (fun _ _ h=>h.elim) ⟨by rw [pz,hn];simp [aB],by
  rw [vU e1]
  have hj2:es[j]?=some e:=by simpa using hjj
  simp only [dF,lq,Nat.zero_add]
  rw [AV q1,hj2];rfl⟩
 have hkey:e.key=kv (ks.getD j .dead):=by
  have h1:(es.toList.map (·.key))[j]?=(ks.map kv)[j]?:=by rw [q2.keys]
  rw [jd,hjj,jd,bM hj] at h1
  simp only [iq,cO] at h1
  rw [h1];simp [hj]
 have hgk:dO kd (ks.getD j .dead)=true:=by
  have:=zl021.1 q2.good _ (gy hj)
  simpa [hj] using this
 have key':OW (dY E fp w) w.heap (RefR N st loc w.heap) [ks.getD j .dead] [e.key] []:=by rw [hkey];exact Xx hgk
 have:=OW.tup (key'.append lk) .nil
 simpa using this
theorem F8 {s:St} {i:Nat} {d:Option Nat} {op:HOp HX} {K:St->Prop} (h:∀ (E:Fr) (ro:Oper) (a:Act) (w:World) (loc:Nat->Value) (fp:Nat->List Nat),aT P ro=op->Rel E (s.nx+stride*i) s.S s.M loc fp a w ->
  ∃r w' us v,(execOp a.eval ro).run P w=.ok (.value r) w'/\After E (s.nx+stride*i+1) s.S s.M us v r a w'/\K ((s.upd us).put d v)) (hop:op≠.bad):rZ P s i d op K:=by
 intro E ro a w next Q hd ho hr hnext
 have hdst:ro.dst=d:=hd
 have hok:(ro.dst.all fun d=>E.ok d)=true:=by
  by_cases hh:(ro.dst.all fun d=>E.ok d)=true
  ·exact hh
  ·exfalso
   unfold bf at ho
   simp only [hh] at ho
   exact hop ho.symm
 have hop':aT P ro=op:=by
  unfold bf at ho
  simpa [hok] using ho
 obtain ⟨loc,fp,hr⟩:=hr
 obtain ⟨r,w',us,v,h1,h2,h3⟩:=h E ro a w loc fp hop' hr
 unfold Oper.wp
 rw [h1]
 show next (a.put ro.dst r) w'
 rw [hdst]
 refine hnext _ _ _ ?_ ((SRel.done (s:=s) (d:=d) h2 (fun t' ht=>by rw [hdst,ht] at hok;simpa using hok)).up (by unfold stride;omega)) h3
 rw [St.put_nx,St.upd_nx]
theorem YM {s:St} {i:Nat} {d:Option Nat} {x:HX} {id:Nat} {p:List Nat} {m:MK} {ks cs:List HV} {K:St->Prop} (hx:ev s.sl x=.mref id p) (hn:aB (s.M id) p=.omap m ks cs)
  (hK:∀k0 bs ck,bs.length=ks.length->bs.Nodup->(∀b∈bs,b<ck)->K ((s.upd [.put id (dI (.omap ⟨m.kind,some (k0,bs,ck)⟩ ks cs) (s.M id) p),.put (s.nx+stride*i) (.oitr (k0+1) ck [] ck)]).put d (.mref (s.nx+stride*i) []))):rZ P s i d (.mrng x) K:=by
 refine F8 (fun E ro a w loc fp ho hr=>?_) (by simp)
 obtain ⟨t,y,k,e,q1,q2,rfl⟩:=Jg ho
 have hxv:=hr.val y
 rw [<- jl,hx] at hxv
 obtain ⟨r,w',k0,bs,ck,h1,h2,h3,h4,h5⟩:=P7 (P:=P) hr (bg _) q2 hxv hn
 exact ⟨r,w',_,_,by simp [execOp,q1,h1],h5,hK k0 bs ck h2 h3 h4⟩
theorem Vw {s:St} {i:Nat} {d:Option Nat} {x:HX} {K:St->Prop} (hx:ev s.sl x=.nilm)
  (hK:K ((s.upd [.put (s.nx+stride*i) (.oitr 0 0 [] 0)]).put d (.mref (s.nx+stride*i) []))):rZ P s i d (.mrng x) K:=by
 refine F8 (fun E ro a w loc fp ho hr=>?_) (by simp)
 obtain ⟨t,y,k,e,q1,q2,rfl⟩:=Jg ho
 have hxv:=hr.val y
 rw [<- jl,hx] at hxv
 have hv:=Dk hxv
 obtain ⟨r,w',h1,h5⟩:=Oq (P:=P) hr (bg _) q2
 exact ⟨r,w',_,_,by simp [execOp,q1,hv,h1],h5,hK⟩
theorem XC {s:St} {i:Nat} {d:Option Nat} {x:HX} {iid id k0 since last ck:Nat} {p:List Nat} {seen bs:List Nat} {kd:KK} {ks cs:List HV} {K:St->Prop} (hx:ev s.sl x=.mref iid []) (hit:s.M iid=.oitr (k0+1) since seen last)
  (hp:p.length<=2) (hn:aB (s.M id) p=.omap ⟨kd,some (k0,bs,ck)⟩ ks cs) (hold:∀b∈bs,b<since) (hsc:since<=last)
  (hdone:(∀b∈bs,b∈seen)->K (s.put d (.tup [.bool false])))
  (hmore:∀j,j<ks.length->j<cs.length->bs.getD j 0 ∉ seen->K ((s.upd [.put iid (.oitr (k0+1) since (seen++[bs.getD j 0]) ck)]).put d (.tup [.bool true,ks.getD j .dead,look id p j (cs.getD j .dead)]))):rZ P s i d (.mnxt x) K:=by
 refine F8 (fun E ro a w loc fp ho hr=>?_) (by simp)
 obtain ⟨y,q1,rfl⟩:=Jt ho
 have hxv:=hr.val y
 rw [<- jl,hx] at hxv
 obtain ⟨r,w',h1,h2⟩:=Qa (P:=P) (ty:=ro.type) hr (bg _) hxv hit hp hn hold hsc
 rcases h2 with ⟨h2,h3⟩|⟨j,h2,h3,h4,h5⟩
 ·exact ⟨r,w',_,_,by simp [execOp,q1,h1],h3,hdone h2⟩
 ·exact ⟨r,w',_,_,by simp [execOp,q1,h1],h5,hmore j h2 h3 h4⟩
theorem Vk {s:St} {i:Nat} {d:Option Nat} {x:HX} {iid since last:Nat} {seen:List Nat} {K:St->Prop} (hx:ev s.sl x=.mref iid []) (hit:s.M iid=.oitr 0 since seen last)
  (hK:K (s.put d (.tup [.bool false]))):rZ P s i d (.mnxt x) K:=by
 refine F8 (fun E ro a w loc fp ho hr=>?_) (by simp)
 obtain ⟨y,q1,rfl⟩:=Jt ho
 have hxv:=hr.val y
 rw [<- jl,hx] at hxv
 obtain ⟨r,h1,h3⟩:=OH (P:=P) (ty:=ro.type) hr (bg _) hxv hit
 exact ⟨r,w,_,_,by simp [execOp,q1,h1],h3,hK⟩
theorem Xe {s:St} {i:Nat} {d:Option Nat} {x:HX} {iid id k0 since ck j:Nat} {p:List Nat} {seen bs:List Nat} {kd:KK} {ks cs:List HV} {K:St->Prop} (hx:ev s.sl x=.mref iid []) (hit:s.M iid=.oitr (k0+1) since (seen++[bs.getD j 0]) ck)
  (hp:p.length<=2) (hn:aB (s.M id) p=.omap ⟨kd,some (k0,bs,ck)⟩ ks cs) (hj:j<ks.length)
  (hK:K (s.put d (.tup [ks.getD j .dead,look id p j (cs.getD j .dead)]))):rZ P s i d (.ment x) K:=by
 refine F8 (fun E ro a w loc fp ho hr=>?_) (by simp)
 obtain ⟨y,q1,rfl⟩:=U6 ho
 have hxv:=hr.val y
 rw [<- jl,hx] at hxv
 obtain ⟨r,h1,h3⟩:=QE (P:=P) hr (bg _) hxv hit hp hn hj
 exact ⟨r,w,_,_,by simp [execOp,q1,h1],h3,hK⟩
end
end Go.HL
end
section
namespace Go.HL
open Go.RowKit
theorem eM {v:HV} {id:Nat} {p:List Nat} (h:v=.mref id p):v=.mref id p:=h
theorem eK {v:HV} (h:v=.nilm):v=.nilm:=h
theorem eV {v:HV} {m:MK} {ks cs:List HV} (h:v=.rmap m ks cs):v=.rmap m ks cs:=h
theorem eY {v:HV} {m:MK} {ks cs:List HV} (h:v=.omap m ks cs):v=.omap m ks cs:=h
def IR (ks cs:List HV) (z k:HV):HV×Bool :=
 match eu k ks with
 | some j=>(cs.getD j .dead,true)
 | none=>(z,false)
def uf (id:Nat) (p:List Nat) (ks cs:List HV) (z k:HV):HV×Bool :=
 match eu k ks with
 | some j=>(look id p j (cs.getD j .dead),true)
 | none=>(z,false)
theorem Ul {id j:Nat} {p:List Nat} {v:HV} (h:gJ v=true):look id p j v=v:=by
 cases v<;>first|rfl|cases h
theorem AQ {id:Nat} {p:List Nat} {ks cs:List HV} {z k:HV} (hl:cs.length=ks.length) (h:aV cs=true):uf id p ks cs z k=IR ks cs z k:=by
 unfold uf IR
 cases hf:eu k ks with
 | none=>rfl
 | some j =>
  have hj:j<cs.length:=by rw [hl];exact ug hf
  have:gJ (cs.getD j .dead)=true:=by
   have:=zl021.1 h _ (gy hj)
   simpa [hj] using this
  simp only [Ul this]
structure KF {α:Type} [DecidableEq α] (f:α->HV):Prop where
 eq:∀a b,xR (f a) (f b)=decide (a=b)
theorem ou {α:Type} [DecidableEq α] {f:α->HV} (K:KF f) (a:α):∀l:List α,eu (f a) (l.map f)=if a∈l then some (l.idxOf a) else none
 | []=>rfl
 | b::l=>by
  simp only [dV,eu,K.eq,ou K a l,zl011]
  by_cases h:a=b
  ·subst h;simp
  ·have h':¬ b=a:=fun e=>h e.symm
   by_cases h2:a∈l
   ·have hb:(b==a)=false:=by simpa using h'
    simp [h,h2,List.idxOf_cons,hb]
   ·simp [h,h2]
theorem Yb {α:Type} [DecidableEq α] {f g:α->HV} (K:KF f) (a:α) (l:List α) (z:HV):IR (l.map f) (l.map g) z (f a)=if a∈l then (g a,true) else (z,false):=by
 unfold IR
 rw [ou K]
 by_cases h:a∈l
 ·simp only [if_pos h]
  have hj:l.idxOf a<l.length:=List.idxOf_lt_length_of_mem h
  simp [bM hj]
 ·simp only [if_neg h]
def ins {α:Type} [DecidableEq α] (a:α) (l:List α):List α:=if a∈l then l else l++[a]
theorem mem_ins {α:Type} [DecidableEq α] {a b:α} {l:List α}:b∈ins a l <-> b=a\/b∈l:=by
 unfold ins;split
 ·rename_i h;constructor
  ·exact .inr
  ·rintro (rfl|h');exact h;exact h'
 ·simp [or_comm]
theorem ins_nodup {α:Type} [DecidableEq α] {a:α} {l:List α} (h:l.Nodup):(ins a l).Nodup:=by
 unfold ins;split
 ·exact h
 ·rename_i h2
  rw [zl006]
  exact ⟨h,by simp,fun x hx y hy e=>by simp at hy;subst hy;exact h2 (e▸hx)⟩
abbrev qC (n:Nat):List HV:=List.replicate n (.bool true)
theorem Zp {α:Type} (l:List α):qC l.length=l.map fun _=>HV.bool true:=by simp only [qC];exact (List.map_const' ..).symm
theorem NR {α:Type} [DecidableEq α] {f:α->HV} (K:KF f) (a:α) (l:List α):IR (l.map f) (qC l.length) (.bool false) (f a)=(.bool (decide (a∈l)),decide (a∈l)):=by
 rw [Zp,Yb K]
 by_cases h:a∈l<;>simp [h]
theorem Ve {α:Type} [DecidableEq α] {f:α->HV} (K:KF f) {id:Nat} {p:List Nat} (a:α) (l:List α):uf id p (l.map f) (qC l.length) (.bool false) (f a)=(.bool (decide (a∈l)),decide (a∈l)):=by
 rw [AQ (by simp [qC]) (by simp [qC,aV,gJ]),NR K]
theorem YE {α:Type} [DecidableEq α] {f:α->HV} (K:KF f) {kd:KK} (a:α) (l:List α):zS ⟨kd,none⟩ (l.map f) (qC l.length) (f a) (.bool true)=.omap ⟨kd,none⟩ ((ins a l).map f) (qC (ins a l).length):=by
 unfold zS ins
 rw [ou K]
 by_cases h:a∈l
 ·simp only [if_pos h]
  congr 1
  apply nN
  intro i
  rw [vg]
  split
  ·rename_i e;subst e
   have:l.idxOf a<(qC l.length).length:=by simpa [qC] using List.idxOf_lt_length_of_mem h
   have h2:l.idxOf a<l.length:=List.idxOf_lt_length_of_mem h
   simp [qC,h2]
  ·rfl
 ·simp only [if_neg h]
  simp [MK.grow,qC,TV]
theorem Oe {α:Type} [DecidableEq α] {f:α->HV} (K:KF f) {kd:KK} (a:α) (l:List α) (cs:List HV) (v:HV) (h:a ∉ l):zS ⟨kd,none⟩ (l.map f) cs (f a) v=.omap ⟨kd,none⟩ ((l++[a]).map f) (cs++[v]):=by
 unfold zS
 rw [ou K,if_neg h]
 simp [MK.grow]
abbrev pk (x:Int×Int):HV:=.agg [.int .i64 x.1,.int .i64 x.2]
theorem J6:KF pk:=⟨fun a b=>by
 obtain ⟨a1,a2⟩:=a
 obtain ⟨b1,b2⟩:=b
 simp only [xR,sJ,Bool.and_true,jR]
 by_cases h1:a1=b1<;>by_cases h2:a2=b2<;>simp [h1,h2]⟩
abbrev ik (x:Int):HV:=.int .i64 x
theorem Xk:KF ik:=⟨fun a b=>by simp only [xR];by_cases h:a=b<;>simp [h]⟩
abbrev sk (x:ByteArray):HV:=.str x
section
variable {P:Program} {C:CallSpec} {all r:List af} {i:Nat} {k:List HI} {rs:List Nat} {K:HV->Prop} {sl st sl' st':List (Nat×HV)} {nx:Nat}
variable {x y z:HX} {t:Nat} {u v w w' zz kx T:HV} {kk:KK} {b ok':Bool} {cs ks:List HV} {m:MK} {n id off sz:Nat} {path:List Nat}
theorem CQ [ok:Ok C k] {fr:Nat} (hf:nx+stride*i=fr) (h:G P C all r (i+1) k rs K ((t,.mref fr [])::sl) ((fr,.omap ⟨kk,none⟩ [] [])::st) nx):G P C all (⟨some t,.mkmap kk,none⟩::r) i k rs K sl st nx:=by
 subst hf
 exact eU ok.mono ok.plain (v:=.mref _ []) (us:=[.put _ (.omap ⟨kk,none⟩ [] [])]) (side:=True) rfl rfl rfl trivial rfl h
theorem PG [ok:Ok C k] (hx:ev sl x=.nilm) (hk:ev sl y=kx) (hg:dO kk kx=true) (hv:okV ok' zz false=v) (h:G P C all r (i+1) k rs K ((t,v)::sl) st nx):G P C all (⟨some t,.mlook ok' kk zz x y,none⟩::r) i k rs K sl st nx :=
 eU ok.mono ok.plain (v:=v) (us:=[]) (side:=dO kk kx=true) rfl (by rw [HOp.map,hx,hk]) (by subst hv;rfl) hg rfl h
theorem Pi [ok:Ok C k] (hx:ev sl x=.rmap m ks cs) (hk:ev sl y=kx) (hg:m.kind=kk/\dO kk kx=true) (hm:IR ks cs zz kx=(w,b)) (hv:okV ok' w b=v) (h:G P C all r (i+1) k rs K ((t,v)::sl) st nx):G P C all (⟨some t,.mlook ok' kk zz x y,none⟩::r) i k rs K sl st nx:=by
 refine eU ok.mono ok.plain (v:=v) (us:=[]) (side:=m.kind=kk/\dO kk kx=true) rfl (by rw [HOp.map,hx,hk]) ?_ hg rfl h
 subst hv
 unfold IR at hm
 cases hf:eu kx ks<;>rw [hf] at hm<;>simp only [jR] at hm<;>obtain ⟨rfl,rfl⟩:=hm<;>simp only [ak,hf]
theorem Jm [ok:Ok C k] (hx:ev sl x=.mref id path) (hu:ax id st=u) (hn:aB u path=.omap m ks cs) (hk:ev sl y=kx) (hg:m.kind=kk/\dO kk kx=true) (hm:uf id path ks cs zz kx=(w,b)) (hv:okV ok' w b=v) (h:G P C all r (i+1) k rs K ((t,v)::sl) st nx):G P C all (⟨some t,.mlook ok' kk zz x y,none⟩::r) i k rs K sl st nx:=by
 refine eU ok.mono ok.plain (v:=v) (us:=[]) (side:=m.kind=kk/\dO kk kx=true) rfl (by rw [HOp.map,hx,hk]) ?_ hg rfl h
 subst hv hu
 unfold uf at hm
 cases hf:eu kx ks<;>rw [hf] at hm<;>simp only [jR] at hm<;>obtain ⟨rfl,rfl⟩:=hm<;>simp only [ak,hn,hf]
theorem yX [ok:Ok C k] {us:List Upd} {sd:Prop} (hx:ev sl x=.mref id path) (hk:ev sl y=kx) (hy:ev sl z=w) (ht:takeC (fun j=>ax j st) w=(w',us,sd)) (hs:sd) (hu0:Lk.upd (fun j=>ax j st) us id=u) (hn:aB u path=.omap m ks cs) (hg:m.kind=kk/\dO kk kx=true) (hp:zS m ks cs kx w'=T) (hse:dI T u path=v)
  (hu:uT sl st (us++[.kill id path.length]++[.put id v])=(sl',st')) (h:G P C all r (i+1) k rs K sl' st' nx):G P C all (⟨none,.mset kk x y z,none⟩::r) i k rs K sl st nx:=by
 subst hse hp hu0
 refine eU ok.mono ok.plain (v:=.dead) (us:=us++[.kill id path.length]++[.put id (dI (zS m ks cs kx w') (Lk.upd (fun j=>ax j st) us id) path)]) (side:=sd/\m.kind=kk/\dO kk kx=true) rfl (by rw [HOp.map,hx,hk,hy]) ?_ ⟨hs,hg⟩ (by rw [hu];rfl) h
 simp only [ak,ht,hn]
theorem BX [ok:Ok C k] (hx:ev sl x=.nilm) (h:G P C all r (i+1) k rs K ((t,.int .i64 0)::sl) st nx):G P C all (⟨some t,.mlen x,none⟩::r) i k rs K sl st nx :=
 eU ok.mono ok.plain (v:=.int .i64 0) (us:=[]) (side:=True) rfl (by rw [HOp.map,hx]) rfl trivial rfl h
theorem BR [ok:Ok C k] {n:Nat} (hx:ev sl x=.rmap m ks cs) (hn:ks.length=n) (h:G P C all r (i+1) k rs K ((t,.int .i64 (n:Int))::sl) st nx):G P C all (⟨some t,.mlen x,none⟩::r) i k rs K sl st nx:=by
 subst hn
 exact eU ok.mono ok.plain (v:=.int .i64 ks.length) (us:=[]) (side:=True) rfl (by rw [HOp.map,hx]) rfl trivial rfl h
theorem DF [ok:Ok C k] {n:Nat} (hx:ev sl x=.mref id path) (hu:ax id st=u) (hn:aB u path=.omap m ks cs) (hl:ks.length=n) (h:G P C all r (i+1) k rs K ((t,.int .i64 (n:Int))::sl) st nx):G P C all (⟨some t,.mlen x,none⟩::r) i k rs K sl st nx:=by
 subst hl hu
 exact eU ok.mono ok.plain (v:=.int .i64 ks.length) (us:=[]) (side:=True) rfl (by rw [HOp.map,hx]) (by simp only [ak,hn]) trivial rfl h
theorem BG [ok:Ok C k] (hx:ev sl x=.nilm) (h:G P C all r (i+1) k rs K ((t,.bool (!b))::sl) st nx):G P C all (⟨some t,.mnil b x,none⟩::r) i k rs K sl st nx :=
 eU ok.mono ok.plain (v:=.bool (!b)) (us:=[]) (side:=True) rfl (by rw [HOp.map,hx]) rfl trivial rfl h
theorem Df [ok:Ok C k] (hx:ev sl x=.rmap m ks cs) (h:G P C all r (i+1) k rs K ((t,.bool b)::sl) st nx):G P C all (⟨some t,.mnil b x,none⟩::r) i k rs K sl st nx :=
 eU ok.mono ok.plain (v:=.bool b) (us:=[]) (side:=True) rfl (by rw [HOp.map,hx]) rfl trivial rfl h
theorem zy [ok:Ok C k] (hx:ev sl x=.mref id path) (hu:ax id st=u) (hn:aB u path=.omap m ks cs) (h:G P C all r (i+1) k rs K ((t,.bool b)::sl) st nx):G P C all (⟨some t,.mnil b x,none⟩::r) i k rs K sl st nx:=by
 subst hu
 exact eU ok.mono ok.plain (v:=.bool b) (us:=[]) (side:=True) rfl (by rw [HOp.map,hx]) (by simp only [ak,hn]) trivial rfl h
theorem acA [ok:Ok (HS P) k] {fr:Nat} (hf:nx+stride*i=fr) (hx:ev sl x=.mref id path) (hu:ax id st=u) (hn:aB u path=.omap m ks cs)
  (h:∀k0 bs ck,bs.length=ks.length->bs.Nodup->(∀b∈bs,b<ck)->G P (HS P) all r (i+1) k rs K ((t,.mref fr [])::sl) ((fr,.oitr (k0+1) ck [] ck)::(id,dI (.omap ⟨m.kind,some (k0,bs,ck)⟩ ks cs) u path)::st) nx):G P (HS P) all (⟨some t,.mrng x,none⟩::r) i k rs K sl st nx:=by
 subst hf hu
 refine rE (YM (s:=⟨sl,st,nx⟩) hx hn fun k0 bs ck h1 h2 h3=>?_)
 refine kL ok.mono ok.plain ?_ (h k0 bs ck h1 h2 h3)
 refine ⟨?_,?_,rfl⟩
 ·funext j;simp only [St.S,St.put,St.upd,ax,fA]
 ·funext j;simp only [St.M,St.put,St.upd,ax,fA]
theorem aaJ [ok:Ok (HS P) k] {fr:Nat} (hf:nx+stride*i=fr) (hx:ev sl x=.nilm) (h:G P (HS P) all r (i+1) k rs K ((t,.mref fr [])::sl) ((fr,.oitr 0 0 [] 0)::st) nx):G P (HS P) all (⟨some t,.mrng x,none⟩::r) i k rs K sl st nx:=by
 subst hf
 refine rE (Vw (s:=⟨sl,st,nx⟩) hx ?_)
 refine kL ok.mono ok.plain ?_ h
 refine ⟨?_,?_,rfl⟩
 ·funext j;simp only [St.S,St.put,St.upd,ax,fA]
 ·funext j;simp only [St.M,St.put,St.upd,ax,fA]
theorem acu [ok:Ok (HS P) k] {iid k0 since last ck:Nat} {seen bs:List Nat} {kd:KK} (hx:ev sl x=.mref iid []) (hit:ax iid st=.oitr (k0+1) since seen last) (hu:ax id st=u) (hp:path.length<=2) (hn:aB u path=.omap ⟨kd,some (k0,bs,ck)⟩ ks cs) (hold:∀b∈bs,b<since) (hsc:since<=last)
  (hdone:(∀b∈bs,b∈seen)->G P (HS P) all r (i+1) k rs K ((t,.tup [.bool false])::sl) st nx)
  (hmore:∀j,j<ks.length->j<cs.length->bs.getD j 0 ∉ seen->G P (HS P) all r (i+1) k rs K ((t,.tup [.bool true,ks.getD j .dead,look id path j (cs.getD j .dead)])::sl) ((iid,.oitr (k0+1) since (seen++[bs.getD j 0]) ck)::st) nx):G P (HS P) all (⟨some t,.mnxt x,none⟩::r) i k rs K sl st nx:=by
 subst hu
 refine rE (XC (s:=⟨sl,st,nx⟩) hx hit hp hn hold hsc (fun hd=>?_) fun j h1 h2 h3=>?_)
 ·refine kL ok.mono ok.plain ?_ (hdone hd)
  refine ⟨?_,?_,rfl⟩
  ·funext j;simp only [St.S,St.put,ax,fA]
  ·rfl
 ·refine kL ok.mono ok.plain ?_ (hmore j h1 h2 h3)
  refine ⟨?_,?_,rfl⟩
  ·funext j;simp only [St.S,St.put,St.upd,ax,fA]
  ·funext j;simp only [St.M,St.put,St.upd,ax,fA]
theorem Zm [ok:Ok (HS P) k] {iid since last:Nat} {seen:List Nat} (hx:ev sl x=.mref iid []) (hit:ax iid st=.oitr 0 since seen last) (h:G P (HS P) all r (i+1) k rs K ((t,.tup [.bool false])::sl) st nx):G P (HS P) all (⟨some t,.mnxt x,none⟩::r) i k rs K sl st nx:=by
 refine rE (Vk (s:=⟨sl,st,nx⟩) hx hit ?_)
 refine kL ok.mono ok.plain ?_ h
 refine ⟨?_,rfl,rfl⟩
 funext j;simp only [St.S,St.put,ax,fA]
theorem abY [ok:Ok (HS P) k] {iid k0 since ck j:Nat} {seen bs:List Nat} {kd:KK} (hx:ev sl x=.mref iid []) (hit:ax iid st=.oitr (k0+1) since (seen++[bs.getD j 0]) ck) (hu:ax id st=u) (hp:path.length<=2) (hn:aB u path=.omap ⟨kd,some (k0,bs,ck)⟩ ks cs) (hj:j<ks.length)
  (hv:HV.tup [ks.getD j .dead,look id path j (cs.getD j .dead)]=v) (h:G P (HS P) all r (i+1) k rs K ((t,v)::sl) st nx):G P (HS P) all (⟨some t,.ment x,none⟩::r) i k rs K sl st nx:=by
 subst hu hv
 refine rE (Xe (s:=⟨sl,st,nx⟩) hx hit hp hn hj ?_)
 refine kL ok.mono ok.plain ?_ h
 refine ⟨?_,rfl,rfl⟩
 funext j;simp only [St.S,St.put,ax,fA]
end
theorem iJ {p:Prop} (h:p:=by (try simp only [go_sem,reduceIte,Nat.reduceEqDiff,Nat.reduceAdd,Nat.reduceMul]);try rfl):p:=h
theorem zT {p:Prop} (h:p:=by simp only [unpack,aW,List.append_nil,List.nil_append,List.cons_append,stride,Nat.reduceAdd,Nat.reduceMul,Nat.zero_add];try rfl):p:=h
theorem zT5 {p:Prop} (h:p:=by simp only [aN,takeD,takeC,ax,Lk.upd,if_true,if_false,reduceIte,Nat.reduceEqDiff,List.append_nil,List.nil_append];try rfl):p:=h
theorem QC {p:Prop} (h:p:=by first|exact ltT (by omega)|exact ltF (by omega)|rfl):p:=h
theorem zT7 {p:Prop} (h:p:=by first|trivial|(refine ⟨?_,?_⟩<;>trivial)|(simp only [and_true,true_and];done)):p:=h
theorem Hw {p:Prop} (h:p:=by (try simp (disch:=omega) only [ax,go_sem,reduceIte,Nat.reduceEqDiff,Nat.reduceAdd,Nat.reduceMul]);try rfl):p:=h
theorem lw {p:Prop} (h:p:=by (try simp (disch:=omega) only [go_sem,Int.reduceAdd,Int.reduceSub,Int.reduceMul]);try rfl):p:=h
theorem KT {p:Prop} (h:p:=by simp only [aN,takeD,takeC,ax,Lk.upd,if_true,if_false,reduceIte,Nat.reduceEqDiff,List.append_nil,List.nil_append,List.cons_append];try rfl):p:=h
theorem MN {p:Prop} (h:p:=by simp only [uT,Bz,kills,oz,List.zip_cons_cons,List.zip_nil_right,dV,pY,HV.kill,tV,List.length_nil,List.length_cons,Nat.reduceEqDiff,Nat.reduceLT,Nat.lt_irrefl,Nat.reduceAdd,if_true,if_false,reduceIte,and_true,true_and,and_false,false_and,and_self,reduceCtorEq,List.append_nil,List.nil_append,List.cons_append];try rfl):p:=h
theorem ay {p:Prop} (h:p:=by (try simp only [dV,pY]);repeat (first|(apply eL1;· exact (by first|exact eI rfl|exact eB rfl|exact eR rfl|exact eS rfl|exact eP rfl|exact eT rfl|exact eA rfl|exact eN rfl|exact eQ rfl|exact eF rfl|exact eD rfl|exact eM rfl|exact eK rfl|exact eV rfl|exact eX rfl|exact eL rfl))|rfl)):p:=h
theorem aK {p:Prop} (h:p:=by simp (disch:=omega) only [dM,HV.thaw,cZ,ax,aB,if_true,if_false,reduceIte,Nat.reduceEqDiff,stripL,HV.strip,qA,sS,Nat.mul_one,List.cons_append,List.nil_append,List.append_nil,I,Bl,T3,List.getD_cons_zero,List.getD_cons_succ,HL.ints_strip,HL.bools_strip,wZ];try rfl):p:=h
theorem aQ {p:Prop} (h:p:=by first|exact eI rfl|exact eB rfl|exact eR rfl|exact eS rfl|exact eP rfl|exact eT rfl|exact eA rfl|exact eN rfl|exact eQ rfl|exact eF rfl|exact eD rfl|exact eM rfl|exact eK rfl|exact eV rfl|exact eX rfl|exact eL rfl):p:=h
theorem uP {p:Prop} (h:p:=by simp only [uT,List.cons_append,List.nil_append,List.append_nil,dV,pY,HV.kill,tV,List.length_nil,List.length_cons,Nat.reduceEqDiff,Nat.reduceLT,Nat.reduceAdd,if_true,if_false,reduceIte,and_true,true_and,and_false,false_and,and_self,reduceCtorEq,Nat.lt_irrefl];try rfl):p:=h
theorem aU {p:Prop} (h:p:=by (try simp only [go_sem]);try rfl):p:=h
theorem vO {p:Prop} (h:p:=by simp (disch:=omega) only [dM,I,HV.thaw,cZ,ax,aB,if_true,if_false,reduceIte,Nat.reduceEqDiff,stripL,HV.strip,qA,sS,Nat.mul_one,List.cons_append,List.nil_append,List.append_nil,I,Bl,T3,List.getD_cons_zero,List.getD_cons_succ,HL.ints_strip,HL.bools_strip,wZ];try rfl):p:=h
theorem bU {p:Prop} (h:p:=by (try simp only [go_sem]);first|omega|decide):p:=h
theorem jv {p:Prop} (h:p:=by (try simp (disch:=omega) only [go_sem,reduceIte,Nat.reduceEqDiff,Nat.reduceAdd,Nat.reduceMul]);try rfl):p:=h
theorem jP {p:Prop} (h:p:=by (try simp (disch:=omega) only [go_sem,reduceIte,Nat.reduceEqDiff,Nat.reduceAdd,Nat.reduceMul,zf]);try rfl):p:=h
theorem ah {p:Prop} (h:p:=by kernel_rfl):p:=h
theorem lN {p:Prop} (h:p:=by (try simp (disch:=omega) only [go_sem,Int.reduceAdd,Int.reduceSub,Int.reduceMul,zf]);try rfl):p:=h
theorem iZ {p:Prop} (h:p:=by first|rfl|exact HL.ints_flat _|exact HL.bools_flat _):p:=h
theorem xh {p:Prop} (h:p:=by simp only [iC,takeC,ax,Lk.upd,if_true,if_false,reduceIte,Nat.reduceEqDiff,List.append_nil,List.nil_append,List.cons_append];try rfl):p:=h
theorem gW {p:Prop} (h:p:=by first|exact eO rfl|exact eW rfl):p:=h
theorem rY {p:Prop} (h:p:=by simp only [takeC,ax,Lk.upd,if_true,if_false,reduceIte,Nat.reduceEqDiff];try rfl):p:=h
theorem gY {p:Prop} (h:p:=by simp only [uT,Bz];rfl):p:=h
theorem dL {p:Prop} (h:p:=by simp only;omega):p:=h
theorem CZ {p:Prop} (h:p:=by (try simp (disch:=omega) only [go_sem,reduceIte,Nat.reduceEqDiff,Nat.reduceAdd,Nat.reduceMul]);try omega):p:=h
theorem qi {p:Prop} (h:p:=by (try simp (disch:=omega) only [go_sem]);try rfl):p:=h
theorem lH {p:Prop} (h:p:=by simp only [uT,Bz];try rfl):p:=h
theorem zV {p:Prop} (h:p:=by refine ⟨?_,rfl,rfl⟩;repeat (first|trivial|refine ⟨?_,?_⟩)):p:=h
theorem JU {p:Prop} (h:p:=by (try simp (disch:=omega) only [List.length_map,go_sem,reduceIte,Nat.reduceEqDiff,Nat.reduceAdd,Nat.reduceMul]);try rfl):p:=h
theorem JM {p:Prop} (h:p:=by (try simp (disch:=omega) only [go_sem,reduceIte,Nat.reduceEqDiff,Nat.reduceAdd,Nat.reduceMul,zf]);try omega):p:=h
theorem zU {p:Prop} (h:p:=by first|exact leT (by omega)|exact leF (by omega)|rfl):p:=h
theorem JX {p:Prop} (h:p:=by simp only [Lk.upd,ax,if_true,if_false,reduceIte,Nat.reduceEqDiff,reduceCtorEq];try rfl):p:=h
theorem yY {p:Prop} (h:p:=by (try simp only [go_sem,reduceIte]);try rfl):p:=h
theorem Sr {p:Prop} (h:p:=by (try simp (disch:=omega) only [List.length_map,go_sem,reduceIte,Nat.reduceEqDiff,Nat.reduceAdd,Nat.reduceMul,zf]);try rfl):p:=h
theorem Np {p:Prop} (h:p:=by (try simp only [dV,pY]);repeat (first|(apply eP1;· exact aQ)|rfl)):p:=h
theorem oD {p:Prop} (h:p:=by unfold maxLen;omega):p:=h
theorem Ep {p:Prop} (h:p:=by (try simp (disch:=omega) only [go_sem,zf]);try rfl):p:=h
theorem G9 {p:Prop} (h:p:=by first|exact eqT (by omega)|exact eqF (by omega)|rfl):p:=h
theorem FH {p:Prop} (h:p:=by first|exact neF (by omega)|exact neT (by omega)|rfl):p:=h
theorem Px {p:Prop} (h:p:=by simp only [pJ,setFrom,cellsOf,List.set_cons_zero,List.set_cons_succ];try rfl):p:=h
theorem Hr {p:Prop} (h:p:=by first|trivial|(refine ⟨?_,?_⟩<;>trivial)):p:=h
end Go.HL
end
