import Derived.Test.YteamkjblpglliaaHl4
set_option linter.unusedSimpArgs false
set_option linter.unusedVariables false
section
namespace Go.HL
def sorted:List (Nat×HV)->Bool
 | []=>true
 | (k,_)::r=>(match r with|[]=>true|(k2,_)::_=>decide (k<k2))&&sorted r
def ownB:HV->Bool
 | .osl ..=>true
 | .optr _=>true
 | _=>false
def OV (f:HV->Bool):HV->Bool
 | .osl _ _ cs=>cs.any f
 | .optr cs=>cs.any f
 | _=>false
def St.af (s:St):St:=match s.st.find? (fun p=>OV (OV ownB) p.2) with
 | some p=>freeze p.1 s
 | none=>s
theorem tN {p:Nat->Prop} (h:∃m,p m):∃m,p m/\∀k,p k->m<=k:=by
 obtain ⟨m,hm⟩:=h
 induction m using Nat.strongRecOn with
 | _ m ih =>
  by_cases h:∃k,k<m/\p k
  ·obtain ⟨k,h1,h2⟩:=h;exact ih k h1 h2
  ·exact ⟨m,hm,fun k hk=>by
    rcases Nat.lt_or_ge k m with h1|h1
    ·exact absurd ⟨k,h1,hk⟩ h
    ·exact h1⟩
end Go.HL
end
section
namespace Go.HL
abbrev Tbl:=List (FuncId×HCode×List Nat×Nat)
def tblOK (P:Program) (tbl:Tbl):Prop:=∀e∈tbl,bu P e.1=some e.2
theorem tblOK.nil {P:Program}:tblOK P []:=by intro e h;cases h
theorem tblOK.cons {P:Program} {f c rs T} {tbl:Tbl} (h:bu P f=some (c,rs,T)) (h2:tblOK P tbl):tblOK P ((f,c,rs,T)::tbl):=by
 intro e he
 rcases List.mem_cons.1 he with rfl|he
 ·exact h
 ·exact h2 e he
mutual
def HV.eqb:HV->HV->Bool
 | .int k n,.int k' n'=>decide (k=k')&&decide (n=n')
 | .bool b,.bool b'=>b==b'
 | .nils,.nils=>true
 | .nilp,.nilp=>true
 | .nilf,.nilf=>true
 | .sl n cs,.sl n' cs'=>decide (n=n')&&IG cs cs'
 | .ptr cs o,.ptr cs' o'=>decide (o=o')&&IG cs cs'
 | .agg cs,.agg cs'=>IG cs cs'
 | .tup cs,.tup cs'=>IG cs cs'
 | .fn f cs,.fn f' cs'=>decide (f=f')&&IG cs cs'
 | _,_=>false
def IG:List HV->List HV->Bool
 | [],[]=>true
 | a::r,b::q=>HV.eqb a b&&IG r q
 | _,_=>false
end
abbrev aao:=List (FuncId×List HV×HV)
def memoOK (P:Program) (m:aao):Prop:=∀e∈m,HT P e.1 e.2.1 (·=e.2.2)
theorem memoOK.nil {P:Program}:memoOK P []:=by intro e h;cases h
theorem memoOK.cons {P:Program} {f:FuncId} {a:List HV} {v:HV} {m:aao} (h:HT P f a (·=v)) (h2:memoOK P m):memoOK P ((f,a,v)::m):=by
 intro e he
 rcases List.mem_cons.1 he with rfl|he
 ·exact h
 ·exact h2 e he
end Go.HL
end
section
namespace Go.HL
open Go.RowKit
def Eqv (s s':St):Prop:=s.S=s'.S/\s.M=s'.M/\s.nx=s'.nx
theorem Eqv.refl (s:St):Eqv s s:=⟨rfl,rfl,rfl⟩
theorem Eqv.symm {s s':St} (h:Eqv s s'):Eqv s' s:=⟨h.1.symm,h.2.1.symm,h.2.2.symm⟩
theorem Eqv.upd {s s':St} (h:Eqv s s') (us:List Upd) (d:Option Nat) (v:HV):Eqv ((s.upd us).put d v) ((s'.upd us).put d v):=by
 refine ⟨?_,?_,?_⟩
 ·rw [St.put_S,St.put_S,St.upd_S,St.upd_S,h.1]
 ·rw [St.put_M,St.put_M,St.upd_M,St.upd_M,h.2.1]
 ·rw [St.put_nx,St.put_nx,St.upd_nx,St.upd_nx,h.2.2]
theorem Eqv.put {s s':St} (h:Eqv s s') (d:Option Nat) (v:HV):Eqv (s.put d v) (s'.put d v):=h.upd [] d v
theorem Eqv.weak {s s' s2:St} (h:Eqv s s') (hw:Weak s s2):Weak s' s2:=by
 intro E a w hr
 refine hw E a w ?_
 obtain ⟨h1,h2,h3⟩:=h
 unfold SRel at *
 rw [h1,h2,h3]
 exact hr
theorem Hg {C:CallSpec} (hC:sZ C) {s s':St} {i:Nat} {o:aS} {K K':St->Prop} (he:Eqv s s') (hK:∀t t',Eqv t t'->K t->K' t') (h:hop C s i o K):hop C s' i o K':=by
 rcases h with h|h
 ·refine .inl ?_
  unfold hop0 at *
  have e1:ev s'.sl=ev s.sl:=by rw [jU,jU,he.1]
  have e2:(fun i=>aX i s'.st)=fun i=>aX i s.st:=he.2.1.symm
  rw [e1,e2,<- he.2.2]
  split at h
  ·exact hC.ap _ _ _ _ h fun r hr=>⟨hr.1,hr.2.1,hK _ _ (he.upd _ _ _) hr.2.2⟩
  ·exact hC.ap _ _ _ _ h fun r hr=>⟨hr.1,hr.2.1,hK _ _ (he.upd _ _ _) hr.2.2⟩
  ·exact ⟨h.1,hK _ _ (he.upd _ _ _) h.2⟩
 ·exact .inr (hC.eqv _ _ _ _ _ _ he.1 he.2.1 he.2.2 (hC.sem _ _ _ _ _ _ h fun t ht=>hK _ _ (Eqv.refl t) ht))
theorem KO {C:CallSpec} (hC:sZ C) {all:List aS} {K:St->Prop} (hK:∀s s',Eqv s s'->K s->K s'):∀ {r:List aS} {i:Nat} {s s':St},Eqv s s'->hops C all r i K s->hops C all r i K s':=by
 intro r
 induction r with
 | nil=>intro i s s' he h;exact hK _ _ he h
 | cons o r ih =>
  intro i s s' he h
  have ed:(fun d=>aX d s'.sl)=fun d=>aX d s.sl:=he.1.symm
  simp only [hops] at h ⊢
  rw [ed]
  split at h
  ·exact Hg hC he (fun t t' ht hh=>ih ht hh) h
  ·split at h
   ·exact ⟨fun hb=>Hg hC he (fun t t' ht hh=>ih ht hh) (h.1 hb),fun hb=>ih (he.put o.dst (.tup [])) (h.2 hb)⟩
   ·exact ih (he.put o.dst (.tup [])) h
   ·exact h
def qP:List HI->Bool
 | []=>true
 | .o ..::_=>false
 | .c _::k=>qP k
 | .b _::k=>qP k
 | .l ..::k=>qP k
theorem Gq {rs:List Nat} {K:HV->Prop} {e:HE} {s s':St} (he:Eqv s s') (h:finish rs K e s):finish rs K e s':=by
 have e1:∀r,aX r s'.sl=aX r s.sl:=fun r=>congrFun he.1.symm r
 have e2:(rs.map fun r=>aX r s'.sl)=rs.map fun r=>aX r s.sl:=by simp only [e1]
 unfold finish at *
 cases e with
 | normal=>simp only at h ⊢;rw [e2,<- he.2.1];exact h
 | ret=>simp only at h ⊢;rw [e2,<- he.2.1];exact h
 | exit i=>exact h
theorem MW {P:Program} {rs:List Nat} {K:HV->Prop} {k:List HI} (hp:qP k=true):∀ {e:HE} {s s':St},Eqv s s'->hk P k (finish rs K) e s->hk P k (finish rs K) e s':=by
 induction k with
 | nil=>intro e s s' he h;exact Gq he h
 | cons a k ih =>
  intro e s s' he h
  cases a with
  | c x =>
   cases e with
   | normal=>obtain ⟨s1,hw,h1⟩:=h;exact ⟨s1,he.weak hw,h1⟩
   | exit i=>exact ih hp he h
   | ret=>exact ih hp he h
  | b id =>
   cases e with
   | normal=>exact ih hp he h
   | exit i =>
    simp only [hk] at h ⊢
    split
    ·rename_i hi;rw [if_pos hi] at h;exact ih hp he h
    ·rename_i hi;rw [if_neg hi] at h;exact ih hp he h
   | ret=>exact ih hp he h
  | o=>cases hp
  | l I μ m =>
   cases e with
   | normal=>obtain ⟨s1,hw,h1⟩:=h;exact ⟨s1,he.weak hw,h1⟩
   | exit i=>exact ih hp he h
   | ret=>exact ih hp he h
section
variable {P:Program} {C:CallSpec} {all r:List aS} {i:Nat} {k:List HI} {rs:List Nat} {K:HV->Prop}
theorem o7 (hC:sZ C) (hp:qP k=true) {s s':St} (he:Eqv s s') (h:hx P (.o C all r i::k) (finish rs K) s):hx P (.o C all r i::k) (finish rs K) s':=by
 unfold hx hk at *
 exact KO hC (fun a b hab hh=>MW hp (s:={ a with nx:=a.nx+stride*all.length }) (s':={ b with nx:=b.nx+stride*all.length }) ⟨hab.1,hab.2.1,congrArg (fun n=>n+stride*all.length) hab.2.2⟩ hh) he h
def sQ (sl st:List (Nat×HV)):List Upd->List (Nat×HV)×List (Nat×HV)
 | []=>(sl,st)
 | .put id t::r=>sQ sl ((id,t)::st) r
 | .kill id len::r=>sQ (sl.map fun p=>(p.1,p.2.kill id len)) st r
def Aw (d:Option Nat) (v:HV) (x:List (Nat×HV)×List (Nat×HV)):List (Nat×HV)×List (Nat×HV) :=
 match d with
 | none=>x
 | some d=>((d,v)::x.1,x.2)
theorem Il (t d:Nat) (v:HV) (l:List (Nat×HV)):aX t ((d,v)::l)=aX t (uw d v l):=by rw [lQ];rfl
theorem Ns (us:List Upd):∀ (sl st:List (Nat×HV)) (nx:Nat) (s:St),Eqv s ⟨sl,st,nx⟩->Eqv (s.upd us) ⟨(sQ sl st us).1,(sQ sl st us).2,nx⟩:=by
 induction us with
 | nil=>intro sl st nx s h;exact h
 | cons u us ih =>
  intro sl st nx s h
  cases u with
  | put id t =>
   refine ih sl ((id,t)::st) nx _ ⟨h.1,?_,h.2.2⟩
   funext j
   have:aX j s.st=aX j st:=congrFun h.2.1 j
   show aX j (uw id t s.st)=_
   rw [lQ]
   show _=aX j ((id,t)::st)
   simp only [aX,this]
  | kill id len =>
   refine ih _ st nx _ ⟨?_,h.2.1,h.2.2⟩
   funext j
   have:aX j s.sl=aX j sl:=congrFun h.1 j
   show aX j (s.sl.map _)=aX j (sl.map _)
   rw [kQ,kQ,this]
theorem kT {d:Option Nat} {v:HV} {us:List Upd} {sl st sl' st':List (Nat×HV)} {nx:Nat} (h:Aw d v (sQ sl st us)=(sl',st')):Eqv ⟨sl',st',nx⟩ ((St.upd ⟨sl,st,nx⟩ us).put d v):=by
 have h1:=Ns us sl st nx ⟨sl,st,nx⟩ (Eqv.refl _)
 cases d with
 | none =>
  simp only [Aw] at h
  rw [h] at h1
  exact h1.symm
 | some d =>
  simp only [Aw,Prod.mk.injEq] at h
  obtain ⟨rfl,rfl⟩:=h
  refine Eqv.symm ⟨?_,?_,?_⟩
  ·rw [St.put_S]
   funext t
   have:=congrFun h1.1 t
   show (if some d=some t then v else _)=aX t ((d,v)::_)
   simp only [Option.some.injEq,aX]
   split
   ·rfl
   ·exact this
  ·rw [St.put_M];exact h1.2.1
  ·rw [St.put_nx];exact h1.2.2
variable {sl sl' st st':List (Nat×HV)} {nx:Nat} {d:Option Nat}
theorem gV (hC:sZ C) (hp:qP k=true) {op:HOp HX} {op':HOp HV} {v:HV} {us:List Upd} {side:Prop} (hnc:op.isCall=false) (ho:op.map (ev sl)=op') (h0:aU (fun j=>aX j st) (nx+stride*i) op'=(v,us,side)) (hs:side)
  (hu:Aw d v (sQ sl st us)=(sl',st')) (h:hx P (.o C all r (i+1)::k) (finish rs K) ⟨sl',st',nx⟩):hx P (.o C all (⟨d,op,none⟩::r) i::k) (finish rs K) ⟨sl,st,nx⟩:=by
 refine aaf hnc ?_
 subst ho
 have e:(fun j=>aX j st)=St.M ⟨sl,st,nx⟩:=rfl
 rw [e] at h0
 simp only
 rw [h0]
 exact ⟨hs,o7 hC hp (kT hu) h⟩
class TU (C:CallSpec):Prop where
 mono:sZ C
instance:TU (HS P):=⟨HT.cmono P⟩
instance {D:FuncId->List HV->HV->Prop}:TU (CS P D):=⟨CS.cmono P D⟩
class Plain (k:List HI):Prop where
 plain:qP k=true
instance:Plain []:=⟨rfl⟩
instance {x:HCode} {k:List HI} [h:Plain k]:Plain (.c x::k):=⟨h.plain⟩
instance {id:Nat} {k:List HI} [h:Plain k]:Plain (.b id::k):=⟨h.plain⟩
instance {I:St->Prop} {μ:St->Nat} {m:Nat} {k:List HI} [h:Plain k]:Plain (.l I μ m::k):=⟨h.plain⟩
class Ok (C:CallSpec) (k:List HI):Prop where
 mono:sZ C
 plain:qP k=true
instance [h:TU C] [h2:Plain k]:Ok C k:=⟨h.mono,h2.plain⟩
theorem eI {v:HV} {k:IntKind} {n:Int} (h:v=.int k n):v=.int k n:=h
theorem eB {v:HV} {b:Bool} (h:v=.bool b):v=.bool b:=h
theorem eR {v:HV} {id:Nat} {p:List Nat} {sz off n:Nat} (h:v=.ref id p sz off n):v=.ref id p sz off n:=h
theorem eS {v:HV} {n:Nat} {cs:List HV} (h:v=.sl n cs):v=.sl n cs:=h
theorem eP {v:HV} {id:Nat} {p:List Nat} {off:Nat} (h:v=.pref id p off):v=.pref id p off:=h
theorem eQ {v:HV} {cs:List HV} {off:Nat} (h:v=.ptr cs off):v=.ptr cs off:=h
theorem eT {v:HV} {cs:List HV} (h:v=.tup cs):v=.tup cs:=h
theorem eA {v:HV} {cs:List HV} (h:v=.agg cs):v=.agg cs:=h
theorem eN {v:HV} (h:v=.nils):v=.nils:=h
theorem eF {v:HV} {f:FuncId} {cs:List HV} (h:v=.fn f cs):v=.fn f cs:=h
theorem eO {v:HV} {sz n:Nat} {cs:List HV} (h:v=.osl sz n cs):v=.osl sz n cs:=h
theorem eW {v:HV} {cs:List HV} (h:v=.optr cs):v=.optr cs:=h
theorem eX {v:HV} {s:ByteArray} (h:v=.str s):v=.str s:=h
theorem eD {v:HV} (h:v=.dead):v=.dead:=h
theorem ltT {a b:Int} (h:a<b):decide (a<b)=true:=by simpa using h
theorem ltF {a b:Int} (h:¬ a<b):decide (a<b)=false:=by simpa using h
theorem leT {a b:Int} (h:a<=b):decide (a<=b)=true:=by simpa using h
theorem leF {a b:Int} (h:¬ a<=b):decide (a<=b)=false:=by simpa using h
theorem eqT {a b:Int} (h:a=b):(a==b)=true:=by simpa using h
theorem eqF {a b:Int} (h:¬ a=b):(a==b)=false:=by simpa using h
theorem neT {a b:Int} (h:¬ a=b):(a != b)=true:=by simpa using h
theorem neF {a b:Int} (h:a=b):(a != b)=false:=by simpa using h
theorem eP1 {a b:Nat} {v w:HV} {l m:List (Nat×Nat×HV)} (h:v=w) (h2:l=m):(a,b,v)::l=(a,b,w)::m:=by rw [h,h2]
theorem eL1 {v w:HV} {l m:List HV} (h:v=w) (h2:l=m):v::l=w::m:=by rw [h,h2]
variable {x y z:HX} {t:Nat} {u v w:HV} {kk:IntKind} {a b c:Int} {p q e:Bool} {cs cs' ws:List HV} {n m o off id sz:Nat} {path:List Nat}
abbrev G (P:Program) (C:CallSpec) (all r:List aS) (i:Nat) (k:List HI) (rs:List Nat) (K:HV->Prop) (sl st:List (Nat×HV)) (nx:Nat):Prop:=hx P (.o C all r i::k) (finish rs K) ⟨sl,st,nx⟩
def YH (nz:Nat) (v:HV):Bool :=
 match nz,v with
 | 0,_=>true
 | _+1,.nils=>false
 | _+1,_=>true
theorem aeA [ok:Ok C k] {nz:Nat} (hv:ev sl x=v) (hn:YH nz v=true) (h:G P C all r (i+1) k rs K ((t,v)::sl) st nx):G P C all (⟨some t,.mv nz x,none⟩::r) i k rs K sl st nx :=
 gV ok.mono ok.plain (v:=v) (us:=[]) (side:=True) rfl (by rw [HOp.map,hv]) (by
  cases nz with
  | zero=>cases v<;>rfl
  | succ nz=>cases v<;>first|rfl|cases hn) trivial rfl h
theorem ah [ok:Ok C k] {nz:Nat} (h:G P C all r (i+1) k rs K ((t,v)::sl) st nx) (hv:ev sl x=v:=by first|exact eI rfl|exact eB rfl|exact eR rfl|exact eS rfl|exact eP rfl|exact eT rfl|exact eA rfl|exact eN rfl|exact eQ rfl|exact eF rfl|exact eD rfl) (hn:YH nz v=true:=by exact rfl):G P C all (⟨some t,.mv nz x,none⟩::r) i k rs K sl st nx:=aeA hv hn h
theorem eU [ok:Ok C k] {nz fr:Nat} (hn:(nz != 0)=true) (hv:ev sl x=.nils) (hf:nx+stride*i=fr) (h:G P C all r (i+1) k rs K ((t,.ref fr [] nz 0 0)::sl) ((fr,.osl nz 0 [])::st) nx):G P C all (⟨some t,.mv nz x,none⟩::r) i k rs K sl st nx:=by
 subst hf
 cases nz with
 | zero=>cases hn
 | succ nz=>exact gV ok.mono ok.plain (us:=[.put (nx+stride*i) (.osl (nz+1) 0 [])]) (side:=True) rfl (by rw [HOp.map,hv]) rfl trivial rfl h
theorem NF [ok:Ok C k] (hc:ev sl x=.bool true) (hv:ev sl y=v) (h:G P C all r (i+1) k rs K ((t,v)::sl) st nx):G P C all (⟨some t,.pick x y z,none⟩::r) i k rs K sl st nx :=
 gV ok.mono ok.plain (v:=v) (us:=[]) (side:=True) rfl (by rw [HOp.map,hc,hv]) (by cases v<;>(try rfl)<;>(cases ev sl z<;>rfl)) trivial rfl h
theorem aK [ok:Ok C k] (h:G P C all r (i+1) k rs K ((t,v)::sl) st nx) (hc:ev sl x=.bool true:=by rfl) (hv:ev sl y=v:=by first|exact eI rfl|exact eB rfl|exact eR rfl|exact eS rfl|exact eP rfl|exact eT rfl|exact eA rfl|exact eN rfl|exact eQ rfl|exact eF rfl|exact eD rfl):G P C all (⟨some t,.pick x y z,none⟩::r) i k rs K sl st nx:=NF hc hv h
theorem Nk [ok:Ok C k] (hc:ev sl x=.bool false) (hv:ev sl z=v) (h:G P C all r (i+1) k rs K ((t,v)::sl) st nx):G P C all (⟨some t,.pick x y z,none⟩::r) i k rs K sl st nx :=
 gV ok.mono ok.plain (v:=v) (us:=[]) (side:=True) rfl (by rw [HOp.map,hc,hv]) (by cases ev sl y<;>(try rfl)<;>(cases v<;>rfl)) trivial rfl h
theorem aI [ok:Ok C k] (h:G P C all r (i+1) k rs K ((t,v)::sl) st nx) (hc:ev sl x=.bool false:=by rfl) (hv:ev sl z=v:=by first|exact eI rfl|exact eB rfl|exact eR rfl|exact eS rfl|exact eP rfl|exact eT rfl|exact eA rfl|exact eN rfl|exact eQ rfl|exact eF rfl|exact eD rfl):G P C all (⟨some t,.pick x y z,none⟩::r) i k rs K sl st nx:=Nk hc hv h
theorem di [ok:Ok C k] (hx:ev sl x=.int kk a) (hy:ev sl y=.int kk b) (hc:kk.wrap (a+b)=c) (h:G P C all r (i+1) k rs K ((t,.int kk c)::sl) st nx):G P C all (⟨some t,.bin .add x y,none⟩::r) i k rs K sl st nx :=
 gV ok.mono ok.plain (v:=.int kk c) (us:=[]) (side:=kk=kk) rfl (by rw [HOp.map,hx,hy]) (by subst hc;rfl) rfl rfl h
theorem bz [ok:Ok C k] (h:G P C all r (i+1) k rs K ((t,.int kk c)::sl) st nx) (hx:ev sl x=.int kk a:=by rfl) (hy:ev sl y=.int kk b:=by rfl) (hc:kk.wrap (a+b)=c:=by (try simp (disch:=omega) only [go_sem,Int.reduceAdd,Int.reduceSub,Int.reduceMul]);try rfl):G P C all (⟨some t,.bin .add x y,none⟩::r) i k rs K sl st nx:=di hx hy hc h
theorem ik [ok:Ok C k] (hx:ev sl x=.int kk a) (hy:ev sl y=.int kk b) (hc:kk.wrap (a - b)=c) (h:G P C all r (i+1) k rs K ((t,.int kk c)::sl) st nx):G P C all (⟨some t,.bin .sub x y,none⟩::r) i k rs K sl st nx :=
 gV ok.mono ok.plain (v:=.int kk c) (us:=[]) (side:=kk=kk) rfl (by rw [HOp.map,hx,hy]) (by subst hc;rfl) rfl rfl h
theorem lg [ok:Ok C k] (hx:ev sl x=.int kk a) (hy:ev sl y=.int kk b) (hc:kk.wrap (a*b)=c) (h:G P C all r (i+1) k rs K ((t,.int kk c)::sl) st nx):G P C all (⟨some t,.bin .mul x y,none⟩::r) i k rs K sl st nx :=
 gV ok.mono ok.plain (v:=.int kk c) (us:=[]) (side:=kk=kk) rfl (by rw [HOp.map,hx,hy]) (by subst hc;rfl) rfl rfl h
theorem Ph [ok:Ok C k] (hx:ev sl x=.int kk a) (hy:ev sl y=.int kk b) (hc:kk.wrap (BitVec.ofInt kk.bits a &&& BitVec.ofInt kk.bits b).toNat=c) (h:G P C all r (i+1) k rs K ((t,.int kk c)::sl) st nx):G P C all (⟨some t,.bin .and x y,none⟩::r) i k rs K sl st nx :=
 gV ok.mono ok.plain (v:=.int kk c) (us:=[]) (side:=kk=kk) rfl (by rw [HOp.map,hx,hy]) (by subst hc;rfl) rfl rfl h
theorem wF [ok:Ok C k] (hx:ev sl x=.int kk a) (hy:ev sl y=.int kk b) (hb:b≠0) (hc:kk.wrap (a.tdiv b)=c) (h:G P C all r (i+1) k rs K ((t,.int kk c)::sl) st nx):G P C all (⟨some t,.bin .quo x y,none⟩::r) i k rs K sl st nx :=
 gV ok.mono ok.plain (v:=.int kk c) (us:=[]) (side:=kk=kk/\b≠0) rfl (by rw [HOp.map,hx,hy]) (by subst hc;rfl) ⟨rfl,hb⟩ rfl h
theorem Ac [ok:Ok C k] (hx:ev sl x=.int kk a) (hy:ev sl y=.int kk b) (hb:b≠0) (hc:a.tmod b=c) (h:G P C all r (i+1) k rs K ((t,.int kk c)::sl) st nx):G P C all (⟨some t,.bin .rem x y,none⟩::r) i k rs K sl st nx :=
 gV ok.mono ok.plain (v:=.int kk c) (us:=[]) (side:=kk=kk/\b≠0) rfl (by rw [HOp.map,hx,hy]) (by subst hc;rfl) ⟨rfl,hb⟩ rfl h
theorem Lp [ok:Ok C k] {k2:IntKind} (hx:ev sl x=.int kk a) (hy:ev sl y=.int k2 b) (hb:0<=b) (hc:kk.wrap (a*2 ^ (min b.toNat kk.bits))=c) (h:G P C all r (i+1) k rs K ((t,.int kk c)::sl) st nx):G P C all (⟨some t,.bin .shl x y,none⟩::r) i k rs K sl st nx :=
 gV ok.mono ok.plain (v:=.int kk c) (us:=[]) (side:=0<=b) rfl (by rw [HOp.map,hx,hy]) (by subst hc;rfl) hb rfl h
theorem OZ [ok:Ok C k] {k2:IntKind} (hx:ev sl x=.int kk a) (hy:ev sl y=.int k2 b) (hb:0<=b) (hc:a.fdiv (2 ^ (min b.toNat kk.bits))=c) (h:G P C all r (i+1) k rs K ((t,.int kk c)::sl) st nx):G P C all (⟨some t,.bin .shr x y,none⟩::r) i k rs K sl st nx :=
 gV ok.mono ok.plain (v:=.int kk c) (us:=[]) (side:=0<=b) rfl (by rw [HOp.map,hx,hy]) (by subst hc;rfl) hb rfl h
theorem acS [ok:Ok C k] (hx:ev sl x=.int kk a) (hy:ev sl y=.int kk b) (hc:(a==b)=p) (h:G P C all r (i+1) k rs K ((t,.bool p)::sl) st nx):G P C all (⟨some t,.bin .eql x y,none⟩::r) i k rs K sl st nx :=
 gV ok.mono ok.plain (v:=.bool p) (us:=[]) (side:=kk=kk) rfl (by rw [HOp.map,hx,hy]) (by subst hc;rfl) rfl rfl h
theorem aY [ok:Ok C k] (h:G P C all r (i+1) k rs K ((t,.bool p)::sl) st nx) (hx:ev sl x=.int kk a:=by rfl) (hy:ev sl y=.int kk b:=by rfl) (hc:(a==b)=p:=by first|exact eqT (by omega)|exact eqF (by omega)|rfl):G P C all (⟨some t,.bin .eql x y,none⟩::r) i k rs K sl st nx:=acS hx hy hc h
theorem aby [ok:Ok C k] (hx:ev sl x=.int kk a) (hy:ev sl y=.int kk b) (hc:(a != b)=p) (h:G P C all r (i+1) k rs K ((t,.bool p)::sl) st nx):G P C all (⟨some t,.bin .neq x y,none⟩::r) i k rs K sl st nx :=
 gV ok.mono ok.plain (v:=.bool p) (us:=[]) (side:=kk=kk) rfl (by rw [HOp.map,hx,hy]) (by subst hc;rfl) rfl rfl h
theorem aW [ok:Ok C k] (h:G P C all r (i+1) k rs K ((t,.bool p)::sl) st nx) (hx:ev sl x=.int kk a:=by rfl) (hy:ev sl y=.int kk b:=by rfl) (hc:(a != b)=p:=by first|exact neF (by omega)|exact neT (by omega)|rfl):G P C all (⟨some t,.bin .neq x y,none⟩::r) i k rs K sl st nx:=aby hx hy hc h
theorem abT [ok:Ok C k] (hx:ev sl x=.int kk a) (hy:ev sl y=.int kk b) (hc:decide (a<b)=p) (h:G P C all r (i+1) k rs K ((t,.bool p)::sl) st nx):G P C all (⟨some t,.bin .lss x y,none⟩::r) i k rs K sl st nx :=
 gV ok.mono ok.plain (v:=.bool p) (us:=[]) (side:=kk=kk) rfl (by rw [HOp.map,hx,hy]) (by subst hc;rfl) rfl rfl h
theorem az [ok:Ok C k] (h:G P C all r (i+1) k rs K ((t,.bool p)::sl) st nx) (hx:ev sl x=.int kk a:=by rfl) (hy:ev sl y=.int kk b:=by rfl) (hc:decide (a<b)=p:=by first|exact ltT (by omega)|exact ltF (by omega)|rfl):G P C all (⟨some t,.bin .lss x y,none⟩::r) i k rs K sl st nx:=abT hx hy hc h
theorem abX [ok:Ok C k] (hx:ev sl x=.int kk a) (hy:ev sl y=.int kk b) (hc:decide (a<=b)=p) (h:G P C all r (i+1) k rs K ((t,.bool p)::sl) st nx):G P C all (⟨some t,.bin .leq x y,none⟩::r) i k rs K sl st nx :=
 gV ok.mono ok.plain (v:=.bool p) (us:=[]) (side:=kk=kk) rfl (by rw [HOp.map,hx,hy]) (by subst hc;rfl) rfl rfl h
theorem dU [ok:Ok C k] (h:G P C all r (i+1) k rs K ((t,.bool p)::sl) st nx) (hx:ev sl x=.int kk a:=by rfl) (hy:ev sl y=.int kk b:=by rfl) (hc:decide (a<=b)=p:=by first|exact leT (by omega)|exact leF (by omega)|rfl):G P C all (⟨some t,.bin .leq x y,none⟩::r) i k rs K sl st nx:=abX hx hy hc h
theorem abU [ok:Ok C k] (hx:ev sl x=.int kk a) (hy:ev sl y=.int kk b) (hc:decide (b<a)=p) (h:G P C all r (i+1) k rs K ((t,.bool p)::sl) st nx):G P C all (⟨some t,.bin .gtr x y,none⟩::r) i k rs K sl st nx :=
 gV ok.mono ok.plain (v:=.bool p) (us:=[]) (side:=kk=kk) rfl (by rw [HOp.map,hx,hy]) (by subst hc;rfl) rfl rfl h
theorem bn [ok:Ok C k] (h:G P C all r (i+1) k rs K ((t,.bool p)::sl) st nx) (hx:ev sl x=.int kk a:=by rfl) (hy:ev sl y=.int kk b:=by rfl) (hc:decide (b<a)=p:=by first|exact ltT (by omega)|exact ltF (by omega)|rfl):G P C all (⟨some t,.bin .gtr x y,none⟩::r) i k rs K sl st nx:=abU hx hy hc h
theorem abI [ok:Ok C k] (hx:ev sl x=.int kk a) (hy:ev sl y=.int kk b) (hc:decide (b<=a)=p) (h:G P C all r (i+1) k rs K ((t,.bool p)::sl) st nx):G P C all (⟨some t,.bin .geq x y,none⟩::r) i k rs K sl st nx :=
 gV ok.mono ok.plain (v:=.bool p) (us:=[]) (side:=kk=kk) rfl (by rw [HOp.map,hx,hy]) (by subst hc;rfl) rfl rfl h
theorem dG [ok:Ok C k] (h:G P C all r (i+1) k rs K ((t,.bool p)::sl) st nx) (hx:ev sl x=.int kk a:=by rfl) (hy:ev sl y=.int kk b:=by rfl) (hc:decide (b<=a)=p:=by first|exact leT (by omega)|exact leF (by omega)|rfl):G P C all (⟨some t,.bin .geq x y,none⟩::r) i k rs K sl st nx:=abI hx hy hc h
theorem Aa [ok:Ok C k] {ne:Bool} (hx:ev sl x=.bool p) (hy:ev sl y=.bool q) (hc:(if ne=true then !(p==q) else p==q)=e) (h:G P C all r (i+1) k rs K ((t,.bool e)::sl) st nx):G P C all (⟨some t,.beq ne x y,none⟩::r) i k rs K sl st nx :=
 gV ok.mono ok.plain (v:=.bool e) (us:=[]) (side:=True) rfl (by rw [HOp.map,hx,hy]) (by subst hc;rfl) trivial rfl h
theorem xG [ok:Ok C k] (hx:ev sl x=.bool p) (hc:(!p)=e) (h:G P C all r (i+1) k rs K ((t,.bool e)::sl) st nx):G P C all (⟨some t,.un .not x,none⟩::r) i k rs K sl st nx :=
 gV ok.mono ok.plain (v:=.bool e) (us:=[]) (side:=True) rfl (by rw [HOp.map,hx]) (by subst hc;rfl) trivial rfl h
theorem dR [ok:Ok C k] (hx:ev sl x=.bool true) (h:G P C all r (i+1) k rs K ((t,.bool false)::sl) st nx):G P C all (⟨some t,.un .not x,none⟩::r) i k rs K sl st nx:=xG hx rfl h
theorem gZ [ok:Ok C k] (hx:ev sl x=.bool false) (h:G P C all r (i+1) k rs K ((t,.bool true)::sl) st nx):G P C all (⟨some t,.un .not x,none⟩::r) i k rs K sl st nx:=xG hx rfl h
theorem Df [ok:Ok C k] (hx:ev sl x=.int kk a) (hc:kk.wrap (0 - a)=c) (h:G P C all r (i+1) k rs K ((t,.int kk c)::sl) st nx):G P C all (⟨some t,.un .neg x,none⟩::r) i k rs K sl st nx :=
 gV ok.mono ok.plain (v:=.int kk c) (us:=[]) (side:=True) rfl (by rw [HOp.map,hx]) (by subst hc;rfl) trivial rfl h
theorem Bh [ok:Ok C k] {k2:IntKind} (hx:ev sl x=.int k2 a) (hc:kk.wrap a=c) (h:G P C all r (i+1) k rs K ((t,.int kk c)::sl) st nx):G P C all (⟨some t,.conv kk x,none⟩::r) i k rs K sl st nx :=
 gV ok.mono ok.plain (v:=.int kk c) (us:=[]) (side:=True) rfl (by rw [HOp.map,hx]) (by subst hc;rfl) trivial rfl h
theorem FC [ok:Ok C k] {mx:Bool} (hx:ev sl x=.int kk a) (hy:ev sl y=.int kk b) (hc:(if mx=true then (if a<b then b else a) else (if b<a then b else a))=c) (h:G P C all r (i+1) k rs K ((t,.int kk c)::sl) st nx):G P C all (⟨some t,.mm mx x y,none⟩::r) i k rs K sl st nx :=
 gV ok.mono ok.plain (v:=.int kk c) (us:=[]) (side:=kk=kk) rfl (by rw [HOp.map,hx,hy]) (by subst hc;rfl) rfl rfl h
theorem Uu [ok:Ok C k] (hx:ev sl x=.nils) (h:G P C all r (i+1) k rs K ((t,.int .i64 0)::sl) st nx):G P C all (⟨some t,.len x,none⟩::r) i k rs K sl st nx :=
 gV ok.mono ok.plain (v:=.int .i64 0) (us:=[]) (side:=True) rfl (by rw [HOp.map,hx]) rfl trivial rfl h
theorem U4 [ok:Ok C k] (hx:ev sl x=.sl n cs) (h:G P C all r (i+1) k rs K ((t,.int .i64 n)::sl) st nx):G P C all (⟨some t,.len x,none⟩::r) i k rs K sl st nx :=
 gV ok.mono ok.plain (v:=.int .i64 n) (us:=[]) (side:=True) rfl (by rw [HOp.map,hx]) rfl trivial rfl h
theorem aF [ok:Ok C k] (h:G P C all r (i+1) k rs K ((t,.int .i64 n)::sl) st nx) (hx:ev sl x=.sl n cs:=by rfl):G P C all (⟨some t,.len x,none⟩::r) i k rs K sl st nx:=U4 hx h
theorem eH [ok:Ok C k] (hx:ev sl x=.ref id path sz off n) (h:G P C all r (i+1) k rs K ((t,.int .i64 n)::sl) st nx):G P C all (⟨some t,.len x,none⟩::r) i k rs K sl st nx :=
 gV ok.mono ok.plain (v:=.int .i64 n) (us:=[]) (side:=True) rfl (by rw [HOp.map,hx]) rfl trivial rfl h
theorem X7 [ok:Ok C k] (hx:ev sl x=.sl n cs) (hy:ev sl y=.int kk a) (h0:0<=a/\a<n) (ho:a.toNat*sz=o) (h:G P C all r (i+1) k rs K ((t,.ptr cs o)::sl) st nx):G P C all (⟨some t,.iaddr sz x y,none⟩::r) i k rs K sl st nx :=
 gV ok.mono ok.plain (v:=.ptr cs o) (us:=[]) (side:=0<=a/\a<n) rfl (by rw [HOp.map,hx,hy]) (by subst ho;rfl) h0 rfl h
theorem aN [ok:Ok C k] (h:G P C all r (i+1) k rs K ((t,.ptr cs o)::sl) st nx) (hx:ev sl x=.sl n cs:=by rfl) (hy:ev sl y=.int kk a:=by rfl) (h0:0<=a/\a<n:=by omega) (ho:a.toNat*sz=o:=by (try simp only [go_sem,reduceIte,Nat.reduceEqDiff,Nat.reduceAdd,Nat.reduceMul]);try rfl):G P C all (⟨some t,.iaddr sz x y,none⟩::r) i k rs K sl st nx:=X7 hx hy h0 ho h
theorem ab2 [ok:Ok C k] (hx:ev sl x=.ref id path sz off n) (hy:ev sl y=.int kk a) (h0:0<=a/\a<n) (ho:off+a.toNat*sz=o) (h:G P C all r (i+1) k rs K ((t,.pref id path o)::sl) st nx):G P C all (⟨some t,.iaddr sz x y,none⟩::r) i k rs K sl st nx :=
 gV ok.mono ok.plain (v:=.pref id path o) (us:=[]) (side:=0<=a/\a<n/\sz=sz) rfl (by rw [HOp.map,hx,hy]) (by subst ho;rfl) ⟨h0.1,h0.2,rfl⟩ rfl h
theorem bY [ok:Ok C k] (h:G P C all r (i+1) k rs K ((t,.pref id path o)::sl) st nx) (hx:ev sl x=.ref id path sz off n:=by rfl) (hy:ev sl y=.int kk a:=by rfl) (h0:0<=a/\a<n:=by omega) (ho:off+a.toNat*sz=o:=by (try simp only [go_sem,reduceIte,Nat.reduceEqDiff,Nat.reduceAdd,Nat.reduceMul]);try rfl):G P C all (⟨some t,.iaddr sz x y,none⟩::r) i k rs K sl st nx:=ab2 hx hy h0 ho h
theorem nK [ok:Ok C k] {dd:Nat} (hx:ev sl x=.ptr cs off) (ho:off+dd=o) (h:G P C all r (i+1) k rs K ((t,.ptr cs o)::sl) st nx):G P C all (⟨some t,.faddr dd x,none⟩::r) i k rs K sl st nx :=
 gV ok.mono ok.plain (v:=.ptr cs o) (us:=[]) (side:=True) rfl (by rw [HOp.map,hx]) (by subst ho;rfl) trivial rfl h
theorem adn [ok:Ok C k] {dd:Nat} (hx:ev sl x=.pref id path off) (ho:off+dd=o) (h:G P C all r (i+1) k rs K ((t,.pref id path o)::sl) st nx):G P C all (⟨some t,.faddr dd x,none⟩::r) i k rs K sl st nx :=
 gV ok.mono ok.plain (v:=.pref id path o) (us:=[]) (side:=True) rfl (by rw [HOp.map,hx]) (by subst ho;rfl) trivial rfl h
theorem aC [ok:Ok C k] {dd:Nat} (h:G P C all r (i+1) k rs K ((t,.pref id path o)::sl) st nx) (hx:ev sl x=.pref id path off:=by rfl) (ho:off+dd=o:=by rfl):G P C all (⟨some t,.faddr dd x,none⟩::r) i k rs K sl st nx:=adn hx ho h
theorem bK [ok:Ok C k] (hx:ev sl x=.ptr cs off) (hl:off<cs.length) (hv:cs.getD off .dead=v) (h:G P C all r (i+1) k rs K ((t,v)::sl) st nx):G P C all (⟨some t,.load false sz x,none⟩::r) i k rs K sl st nx :=
 gV ok.mono ok.plain (v:=v) (us:=[]) (side:=off<cs.length) rfl (by rw [HOp.map,hx]) (by subst hv;rfl) hl rfl h
theorem GV [ok:Ok C k] (hx:ev sl x=.ptr cs off) (hl:off+sz<=cs.length) (hv:win cs off sz=ws) (h:G P C all r (i+1) k rs K ((t,.agg ws)::sl) st nx):G P C all (⟨some t,.load true sz x,none⟩::r) i k rs K sl st nx :=
 gV ok.mono ok.plain (v:=.agg ws) (us:=[]) (side:=off+sz<=cs.length) rfl (by rw [HOp.map,hx]) (by subst hv;rfl) hl rfl h
theorem gJ [ok:Ok C k] (hx:ev sl x=.pref id path off) (ht:aX id st=u) (hk:bC (bg u path)=cs) (hl:off<cs.length) (hv:cs.getD off .dead=w) (hw:look id path off w=v) (h:G P C all r (i+1) k rs K ((t,v)::sl) st nx):G P C all (⟨some t,.load false sz x,none⟩::r) i k rs K sl st nx :=
 gV ok.mono ok.plain (v:=v) (us:=[]) (side:=off<cs.length) rfl (by rw [HOp.map,hx]) (by
  subst hv hw hk ht
  rfl) hl rfl h
theorem aH [ok:Ok C k] (h:G P C all r (i+1) k rs K ((t,v)::sl) st nx) (hx:ev sl x=.pref id path off:=by rfl) (ht:aX id st=u:=by first|exact eO rfl|exact eW rfl) (hk:bC (bg u path)=cs:=by (try simp only [go_sem]);try rfl) (hl:off<cs.length:=by (try simp only [go_sem]);first|omega|decide) (hv:cs.getD off .dead=w:=by (try simp (disch:=omega) only [go_sem]);try rfl) (hw:look id path off w=v:=by first|exact eI rfl|exact eB rfl|exact eR rfl|exact eS rfl|exact eP rfl|exact eT rfl|exact eA rfl|exact eN rfl|exact eQ rfl|exact eF rfl|exact eD rfl):G P C all (⟨some t,.load false sz x,none⟩::r) i k rs K sl st nx:=gJ hx ht hk hl hv hw h
theorem nO [ok:Ok C k] (hx:ev sl x=.pref id path off) (ht:aX id st=u) (hk:bC (bg u path)=cs) (hl:off+sz<=cs.length) (h0:0<sz) (hv:win cs off sz=ws) (hf:dA ws=true) (h:G P C all r (i+1) k rs K ((t,.agg ws)::sl) st nx):G P C all (⟨some t,.load true sz x,none⟩::r) i k rs K sl st nx :=
 gV ok.mono ok.plain (v:=.agg ws) (us:=[]) (side:=off+sz<=cs.length/\0<sz/\dA ws=true) rfl (by rw [HOp.map,hx]) (by
  subst hv hk ht
  simp only [aU,if_true]) ⟨hl,h0,hf⟩ rfl h
theorem bM [ok:Ok C k] (h:G P C all r (i+1) k rs K ((t,.agg ws)::sl) st nx) (hx:ev sl x=.pref id path off:=by rfl) (ht:aX id st=u:=by first|exact eO rfl|exact eW rfl) (hk:bC (bg u path)=cs:=by (try simp only [go_sem]);try rfl) (hl:off+sz<=cs.length:=by (try simp only [go_sem]);first|omega|decide) (h0:0<sz:=by decide) (hv:win cs off sz=ws:=by (try simp (disch:=omega) only [go_sem,reduceIte,Nat.reduceEqDiff,Nat.reduceAdd,Nat.reduceMul]);try rfl) (hf:dA ws=true:=by first|rfl|exact HL.ints_flat _|exact HL.bools_flat _|exact kF _):G P C all (⟨some t,.load true sz x,none⟩::r) i k rs K sl st nx:=nO hx ht hk hl h0 hv hf h
theorem tZ (L:Lk):∀ {l:List HV},dA l=true->fO L l=(l,[],(fO L l).2.2)/\(fO L l).2.2:=by
 intro l
 induction l generalizing L with
 | nil=>intro _;exact ⟨rfl,trivial⟩
 | cons v r ih =>
  intro h
  simp only [dA,List.all_cons,Bool.and_eq_true] at h
  have h1:takeC L v=(v,[],True):=by cases v<;>first|rfl|(exact absurd h.1 (by simp [iC]))
  obtain ⟨h2,h3⟩:=ih (L:=L) h.2
  simp only [fO,h1,Lk.upd]
  rw [h2]
  exact ⟨rfl,trivial,h3⟩
theorem yU [ok:Ok C k] (hx:ev sl x=.pref id path off) (hy:ev sl y=w) (hw:cellsOf w=ws) (hf:dA ws=true) (hz:ws.length=sz) (h0:0<sz) (ht:aX id st=u) (hk:bC (bg u path)=cs) (hl:off+sz<=cs.length)
  (hs:setFrom cs off ws=cs') (hn:fE (dD cs' (bg u path)) u path=v) (h:G P C all r (i+1) k rs K sl ((id,v)::st) nx):G P C all (⟨none,.store true sz x y,none⟩::r) i k rs K sl st nx:=by
 obtain ⟨e1,e2⟩:=tZ (fun j=>aX j st) hf
 refine gV ok.mono ok.plain (v:=.dead) (us:=[.put id v]) (side:=(fO (fun j=>aX j st) ws).2.2/\ws.length=sz/\0<sz/\off+sz<=cs.length/\(true=true->dA ws=true)) rfl (by rw [HOp.map,hx,hy]) ?_ ⟨e2,hz,h0,hl,fun _=>hf⟩ rfl h
 subst hn hs hk ht hw
 simp only [aU]
 rw [e1]
 simp only [if_true,List.nil_append,Lk.upd]
theorem iI [ok:Ok C k] (h:G P C all r (i+1) k rs K sl ((id,v)::st) nx) (hx:ev sl x=.pref id path off:=by rfl) (hy:ev sl y=w:=by first|exact eI rfl|exact eB rfl|exact eR rfl|exact eS rfl|exact eP rfl|exact eT rfl|exact eA rfl|exact eN rfl|exact eQ rfl|exact eF rfl|exact eD rfl) (hw:cellsOf w=ws:=by (try simp only [go_sem]);try rfl) (hf:dA ws=true:=by first|rfl|exact HL.ints_flat _|exact HL.bools_flat _|exact kF _) (hz:ws.length=sz:=by rfl) (h0:0<sz:=by decide) (ht:aX id st=u:=by first|exact eO rfl|exact eW rfl) (hk:bC (bg u path)=cs:=by (try simp only [go_sem]);try rfl) (hl:off+sz<=cs.length:=by (try simp only [go_sem]);first|omega|decide) (hs:setFrom cs off ws=cs':=by (try simp (disch:=omega) only [go_sem]);try rfl) (hn:fE (dD cs' (bg u path)) u path=v:=by (try simp only [go_sem]);try rfl):G P C all (⟨none,.store true sz x y,none⟩::r) i k rs K sl st nx:=yU hx hy hw hf hz h0 ht hk hl hs hn h
theorem LW [ok:Ok C k] {ne:Bool} (hx:ev sl x=.nils) (h:G P C all r (i+1) k rs K ((t,.bool (!ne))::sl) st nx):G P C all (⟨some t,.isn ne x,none⟩::r) i k rs K sl st nx :=
 gV ok.mono ok.plain (v:=.bool (!ne)) (us:=[]) (side:=True) rfl (by rw [HOp.map,hx]) rfl trivial rfl h
theorem TE [ok:Ok C k] {ne:Bool} (hx:ev sl x=.sl n cs) (hn:0<n) (h:G P C all r (i+1) k rs K ((t,.bool ne)::sl) st nx):G P C all (⟨some t,.isn ne x,none⟩::r) i k rs K sl st nx :=
 gV ok.mono ok.plain (v:=.bool ne) (us:=[]) (side:=0<n) rfl (by rw [HOp.map,hx]) rfl hn rfl h
theorem ER [ok:Ok C k] {ne:Bool} (hx:ev sl x=.ref id path sz off n) (hn:0<n) (h:G P C all r (i+1) k rs K ((t,.bool ne)::sl) st nx):G P C all (⟨some t,.isn ne x,none⟩::r) i k rs K sl st nx :=
 gV ok.mono ok.plain (v:=.bool ne) (us:=[]) (side:=0<n) rfl (by rw [HOp.map,hx]) rfl hn rfl h
theorem adg [ok:Ok C k] (hx:ev sl x=.tup cs) (hl:n<cs.length) (hv:cs.getD n .dead=v) (h:G P C all r (i+1) k rs K ((t,v)::sl) st nx):G P C all (⟨some t,.ext x n,none⟩::r) i k rs K sl st nx :=
 gV ok.mono ok.plain (v:=v) (us:=[]) (side:=n<cs.length) rfl (by rw [HOp.map,hx]) (by subst hv;rfl) hl rfl h
theorem bU [ok:Ok C k] (h:G P C all r (i+1) k rs K ((t,v)::sl) st nx) (hx:ev sl x=.tup cs:=by rfl) (hl:n<cs.length:=by (try simp only [go_sem]);first|omega|decide) (hv:cs.getD n .dead=v:=by first|exact eI rfl|exact eB rfl|exact eR rfl|exact eS rfl|exact eP rfl|exact eT rfl|exact eA rfl|exact eN rfl|exact eQ rfl|exact eF rfl|exact eD rfl):G P C all (⟨some t,.ext x n,none⟩::r) i k rs K sl st nx:=adg hx hl hv h
theorem Kz [ok:Ok C k] {lo hi:Option HX} (hx:ev sl x=.ref id path sz off n) (hlo:(lo.map (ev sl)).getD (.int .i64 0)=.int .i64 a) (hhi:(hi.map (ev sl)).getD (.int .i64 n)=.int .i64 b) (hside:0<=a/\a<=b/\b<=n) (hm:(b - a).toNat=m) (ho:off+a.toNat*sz=o)
  (h:G P C all r (i+1) k rs K ((t,.ref id path sz o m)::sl) st nx):G P C all (⟨some t,.slc sz x lo hi,none⟩::r) i k rs K sl st nx :=
 gV ok.mono ok.plain (v:=.ref id path sz o m) (us:=[]) (side:=0<=a/\a<=b/\b<=n/\sz=sz) rfl (by rw [HOp.map,hx]) (by subst hm ho;simp only [aU,hlo,hhi]) ⟨hside.1,hside.2.1,hside.2.2,rfl⟩ rfl h
theorem ZL [ok:Ok C k] {xs:List HX} {vs:List HV} {fr:Nat} (hf:nx+stride*i=fr) (hvs:xs.map (ev sl)=vs) (hcs:vs.flatMap cellsOf=cs) (hfl:dA cs=true) (hn:n=vs.length) (hz:(vs.all fun v=>(cellsOf v).length==sz)=true)
  (h:G P C all r (i+1) k rs K ((t,.ref fr [] sz 0 n)::sl) ((fr,.osl sz n cs)::st) nx):G P C all (⟨some t,.bsl sz n xs,none⟩::r) i k rs K sl st nx:=by
 obtain ⟨e1,e2⟩:=tZ (fun j=>aX j st) hfl
 subst hf
 refine gV ok.mono ok.plain (us:=[.put (nx+stride*i) (.osl sz n cs)]) (side:=(fO (fun j=>aX j st) cs).2.2/\n=vs.length/\(vs.all fun v=>(cellsOf v).length==sz)=true) rfl (by rw [HOp.map,hvs]) ?_ ⟨e2,hn,hz⟩ rfl h
 subst hcs
 simp only [aU]
 rw [e1]
 rfl
theorem dF [ok:Ok C k] {xs:List HX} {vs:List HV} {fr:Nat} (h:G P C all r (i+1) k rs K ((t,.ref fr [] sz 0 n)::sl) ((fr,.osl sz n cs)::st) nx) (hf:nx+stride*i=fr:=by (try simp only [go_sem,reduceIte,Nat.reduceEqDiff,Nat.reduceAdd,Nat.reduceMul]);try rfl) (hvs:xs.map (ev sl)=vs:=by (try simp only [List.map_cons,List.map_nil]);repeat (first|(apply eL1;· exact fP)|rfl)) (hcs:vs.flatMap cellsOf=cs:=by (try simp only [go_sem]);try rfl) (hfl:dA cs=true:=by first|rfl|exact HL.ints_flat _|exact HL.bools_flat _|exact kF _) (hn:n=vs.length:=by rfl) (hz:(vs.all fun v=>(cellsOf v).length==sz)=true:=by rfl):G P C all (⟨some t,.bsl sz n xs,none⟩::r) i k rs K sl st nx:=ZL hf hvs hcs hfl hn hz h
theorem tY (a b:List Upd):∀ (sl st:List (Nat×HV)),sQ sl st (a++b)=sQ (sQ sl st a).1 (sQ sl st a).2 b:=by
 induction a with
 | nil=>intro sl st;rfl
 | cons u a ih=>intro sl st;cases u<;>exact ih _ _
theorem J6 [ok:Ok C k] {fl:Bool} {ws0:List HV} {us:List Upd} {sd:Prop} (hx:ev sl x=.pref id path off) (hy:ev sl y=w) (hw:cellsOf w=ws0) (ht:fO (fun j=>aX j st) ws0=(ws,us,sd)) (hs:sd) (hz:ws.length=sz) (h0:0<sz) (hf:fl=false) (hu0:Lk.upd (fun j=>aX j st) us id=u) (hk:bC (bg u path)=cs) (hl:off+sz<=cs.length)
  (hse:setFrom cs off ws=cs') (hn:fE (dD cs' (bg u path)) u path=v) (hu:sQ sl st (us++[.kill id path.length]++[.put id v])=(sl',st')) (h:G P C all r (i+1) k rs K sl' st' nx):G P C all (⟨none,.store fl sz x y,none⟩::r) i k rs K sl st nx:=by
 subst hf hn hse hk hu0 hw
 refine gV ok.mono ok.plain (v:=.dead) (us:=us++[.kill id path.length]++[.put id (fE (dD (setFrom (bC (bg (Lk.upd (fun j=>aX j st) us id) path)) off ws) (bg (Lk.upd (fun j=>aX j st) us id) path)) (Lk.upd (fun j=>aX j st) us id) path)]) (side:=sd/\ws.length=sz/\0<sz/\off+sz<=(bC (bg (Lk.upd (fun j=>aX j st) us id) path)).length/\(false=true->dA ws=true)) rfl (by rw [HOp.map,hx,hy]) ?_ ⟨hs,hz,h0,hl,fun h=>by cases h⟩ (by rw [hu];rfl) h
 simp only [aU,ht,if_false,Bool.false_eq_true]
theorem dn [ok:Ok C k] {fl:Bool} {ws0:List HV} {us:List Upd} {sd:Prop} (h:G P C all r (i+1) k rs K sl' st' nx) (hx:ev sl x=.pref id path off:=by rfl) (hy:ev sl y=w:=by first|exact eI rfl|exact eB rfl|exact eR rfl|exact eS rfl|exact eP rfl|exact eT rfl|exact eA rfl|exact eN rfl|exact eQ rfl|exact eF rfl|exact eD rfl) (hw:cellsOf w=ws0:=by (try simp only [go_sem]);try rfl) (ht:fO (fun j=>aX j st) ws0=(ws,us,sd):=by simp only [fO,takeC,aX,Lk.upd,if_true,if_false,reduceIte,Nat.reduceEqDiff,List.append_nil,List.nil_append,List.cons_append];try rfl) (hs:sd:=by first|trivial|(refine ⟨?_,?_⟩<;>trivial)) (hz:ws.length=sz:=by rfl) (h0:0<sz:=by first|exact Nat.zero_lt_one|decide) (hf:fl=false:=by rfl) (hu0:Lk.upd (fun j=>aX j st) us id=u:=by simp only [Lk.upd,aX,if_true,if_false,reduceIte,Nat.reduceEqDiff,reduceCtorEq];try rfl) (hk:bC (bg u path)=cs:=by (try simp only [go_sem]);try rfl) (hl:off+sz<=cs.length:=by (try simp only [go_sem]);first|omega|decide) (hse:setFrom cs off ws=cs':=by (try simp (disch:=omega) only [go_sem]);try rfl) (hn:fE (dD cs' (bg u path)) u path=v:=by (try simp only [go_sem]);try rfl) (hu:sQ sl st (us++[.kill id path.length]++[.put id v])=(sl',st'):=by simp only [sQ,List.cons_append,List.nil_append,List.append_nil,List.map_cons,List.map_nil,HV.kill,l9,List.length_nil,List.length_cons,Nat.reduceEqDiff,Nat.reduceLT,Nat.reduceAdd,if_true,if_false,reduceIte,and_true,true_and,and_false,false_and,and_self,reduceCtorEq,Nat.lt_irrefl];try rfl):G P C all (⟨none,.store fl sz x y,none⟩::r) i k rs K sl st nx:=J6 hx hy hw ht hs hz h0 hf hu0 hk hl hse hn hu h
theorem Aq [ok:Ok C k] {xs:List HX} {vs cs0:List HV} {us:List Upd} {sd:Prop} {fr:Nat} (hf:nx+stride*i=fr) (hvs:xs.map (ev sl)=vs) (hcs:vs.flatMap cellsOf=cs0) (ht:fO (fun j=>aX j st) cs0=(cs,us,sd)) (hs:sd) (hn:n=vs.length) (hz:(vs.all fun v=>(cellsOf v).length==sz)=true) (hu:sQ sl st us=(sl',st'))
  (h:G P C all r (i+1) k rs K ((t,.ref fr [] sz 0 n)::sl') ((fr,.osl sz n cs)::st') nx):G P C all (⟨some t,.bsl sz n xs,none⟩::r) i k rs K sl st nx:=by
 subst hf
 refine gV ok.mono ok.plain (v:=.ref (nx+stride*i) [] sz 0 n) (us:=us++[.put (nx+stride*i) (.osl sz n cs)]) (side:=sd/\n=vs.length/\(vs.all fun v=>(cellsOf v).length==sz)=true) rfl (by rw [HOp.map,hvs]) ?_ ⟨hs,hn,hz⟩ (by rw [tY,hu];rfl) h
 subst hcs
 simp only [aU]
 rw [ht]
theorem Hz [ok:Ok C k] {fr bytes sz2 n2 q:Nat} {fl:Bool} {sd:Prop} {us:List Upd} {u':HV} (hf:nx+stride*i=fr) (hx:ev sl x=.ref id path sz off n) (hy:ev sl y=w) (hn:dQ (fun j=>aX j st) fl sz w=(m,ws,us,sd)) (hs:sd) (ht:Lk.upd (fun j=>aX j st) us id=u) (hg:bg u path=.osl sz2 n2 cs) (hq:n+m=q)
  (hb:q*bytes<=140737488355328) (hm:q<=maxLen) (hl:off+n*sz<=cs.length) (hc:win cs off (n*sz)++ws=cs') (hd:fE .dead u path=u') (hu:sQ sl st us=(sl',st'))
  (h:G P C all r (i+1) k rs K ((t,.ref fr [] sz 0 q)::sl') ((fr,.osl sz q cs')::(id,u')::st') nx):G P C all (⟨some t,.app fl sz bytes x y,none⟩::r) i k rs K sl st nx:=by
 subst hf hd hc ht hq
 refine gV ok.mono ok.plain (v:=.ref (nx+stride*i) [] sz 0 (n+m)) (us:=us++[.put id (fE .dead (Lk.upd (fun j=>aX j st) us id) path),.put (nx+stride*i) (.osl sz (n+m) (win cs off (n*sz)++ws))]) (side:=sd/\(n+m)*bytes<=140737488355328/\n+m<=maxLen/\sz=sz/\off+n*sz<=cs.length) rfl (by rw [HOp.map,hx,hy]) ?_ ⟨hs,hb,hm,rfl,hl⟩ (by rw [tY,hu];rfl) h
 simp only [aU,hn,hg]
theorem UU [ok:Ok C k] {fr:Nat} (hf:nx+stride*i=fr) (hv:ev sl x=v) (hcs:cellsOf v=cs) (hfl:dA cs=true) (hz:cs.length=sz) (h:G P C all r (i+1) k rs K ((t,.pref fr [] 0)::sl) ((fr,.optr cs)::st) nx):G P C all (⟨some t,.newv sz x,none⟩::r) i k rs K sl st nx:=by
 obtain ⟨e1,e2⟩:=tZ (fun j=>aX j st) hfl
 subst hf
 refine gV ok.mono ok.plain (us:=[.put (nx+stride*i) (.optr cs)]) (side:=(fO (fun j=>aX j st) cs).2.2/\cs.length=sz) rfl (by rw [HOp.map,hv]) ?_ ⟨e2,hz⟩ rfl h
 subst hcs
 simp only [aU]
 rw [e1]
 rfl
theorem dX [ok:Ok C k] {fr:Nat} (h:G P C all r (i+1) k rs K ((t,.pref fr [] 0)::sl) ((fr,.optr cs)::st) nx) (hf:nx+stride*i=fr:=by (try simp only [go_sem,reduceIte,Nat.reduceEqDiff,Nat.reduceAdd,Nat.reduceMul]);try rfl) (hv:ev sl x=v:=by first|exact eI rfl|exact eB rfl|exact eR rfl|exact eS rfl|exact eP rfl|exact eT rfl|exact eA rfl|exact eN rfl|exact eQ rfl|exact eF rfl|exact eD rfl) (hcs:cellsOf v=cs:=by (try simp only [go_sem]);try rfl) (hfl:dA cs=true:=by first|rfl|exact HL.ints_flat _|exact HL.bools_flat _|exact kF _) (hz:cs.length=sz:=by rfl):G P C all (⟨some t,.newv sz x,none⟩::r) i k rs K sl st nx:=UU hf hv hcs hfl hz h
theorem iD [ok:Ok C k] {fr:Nat} (hf:nx+stride*i=fr) (h:G P C all r (i+1) k rs K ((t,.pref fr [] 0)::sl) ((fr,.optr cs)::st) nx):G P C all (⟨some t,.newz cs,none⟩::r) i k rs K sl st nx:=by
 subst hf
 exact gV ok.mono ok.plain (us:=[.put (nx+stride*i) (.optr cs)]) (side:=True) rfl rfl rfl trivial rfl h
theorem nC [ok:Ok C k] {zs:List HV} {ps:List (Nat×Nat×HX)} {qs:List (Nat×Nat×HV)} {side:Prop} (hq:(ps.map fun p=>(p.1,p.2.1,ev sl p.2.2))=qs) (hw:mG zs qs=(ws,side)) (hs:side) (h:G P C all r (i+1) k rs K ((t,.agg ws)::sl) st nx):G P C all (⟨some t,.bld zs ps,none⟩::r) i k rs K sl st nx :=
 gV ok.mono ok.plain (v:=.agg ws) (us:=[]) (side:=side) rfl rfl (by simp only [aU,HOp.map];rw [hq,hw]) hs rfl h
theorem ku [ok:Ok C k] {fr bytes:Nat} {zs:List HV} (hf:nx+stride*i=fr) (hx:ev sl x=.int .i64 a) (hs:0<=a/\bytes*a<=281474976710656/\a<=9223372036854775807) (hm:a.toNat=m) (hcs:(List.replicate m zs).flatten=cs)
  (h:G P C all r (i+1) k rs K ((t,.ref fr [] sz 0 m)::sl) ((fr,.osl sz m cs)::st) nx):G P C all (⟨some t,.mksl sz bytes zs x,none⟩::r) i k rs K sl st nx:=by
 subst hf hcs hm
 exact gV ok.mono ok.plain (us:=[.put (nx+stride*i) (.osl sz a.toNat (List.replicate a.toNat zs).flatten)]) (side:=0<=a/\bytes*a<=281474976710656/\a<=9223372036854775807) rfl (by rw [HOp.map,hx]) rfl hs rfl h
theorem Ul [ok:Ok C k] {fr bytes:Nat} {fl:Bool} {sd:Prop} (hf:nx+stride*i=fr) (hx:ev sl x=.nils) (hy:ev sl y=w) (hn:dQ (fun j=>aX j st) fl sz w=(m,ws,[],sd)) (hs:sd) (hb:m*bytes<=140737488355328) (hm:m<=maxLen)
  (h:G P C all r (i+1) k rs K ((t,.ref fr [] sz 0 m)::sl) ((fr,.osl sz m ws)::st) nx):G P C all (⟨some t,.app fl sz bytes x y,none⟩::r) i k rs K sl st nx:=by
 subst hf
 refine gV ok.mono ok.plain (us:=[.put (nx+stride*i) (.osl sz m ws)]) (side:=sd/\m*bytes<=140737488355328/\m<=maxLen) rfl (by rw [HOp.map,hx,hy]) ?_ ⟨hs,hb,hm⟩ rfl h
 simp only [aU,hn]
 rfl
theorem jq [ok:Ok C k] {fr bytes sz2 n2 q:Nat} {fl:Bool} {sd:Prop} {u':HV} (hf:nx+stride*i=fr) (hx:ev sl x=.ref id path sz off n) (hy:ev sl y=w) (hn:dQ (fun j=>aX j st) fl sz w=(m,ws,[],sd)) (hs:sd) (ht:aX id st=u) (hg:bg u path=.osl sz2 n2 cs) (hq:n+m=q)
  (hb:q*bytes<=140737488355328) (hm:q<=maxLen) (hl:off+n*sz<=cs.length) (hc:win cs off (n*sz)++ws=cs') (hd:fE .dead u path=u')
  (h:G P C all r (i+1) k rs K ((t,.ref fr [] sz 0 q)::sl) ((fr,.osl sz q cs')::(id,u')::st) nx):G P C all (⟨some t,.app fl sz bytes x y,none⟩::r) i k rs K sl st nx:=by
 subst hf hd hc ht hq
 refine gV ok.mono ok.plain (us:=[.put id (fE .dead (aX id st) path),.put (nx+stride*i) (.osl sz (n+m) (win cs off (n*sz)++ws))]) (side:=sd/\(n+m)*bytes<=140737488355328/\n+m<=maxLen/\sz=sz/\off+n*sz<=cs.length) rfl (by rw [HOp.map,hx,hy]) ?_ ⟨hs,hb,hm,rfl,hl⟩ rfl h
 simp only [aU,hn,Lk.upd,hg,List.nil_append]
theorem kK [ok:Ok C k] {fr bytes sz2 n2 q:Nat} {fl:Bool} {sd:Prop} {u':HV} (h:G P C all r (i+1) k rs K ((t,.ref fr [] sz 0 q)::sl) ((fr,.osl sz q cs')::(id,u')::st) nx) (hf:nx+stride*i=fr:=by (try simp only [go_sem,reduceIte,Nat.reduceEqDiff,Nat.reduceAdd,Nat.reduceMul]);try rfl) (hx:ev sl x=.ref id path sz off n:=by rfl) (hy:ev sl y=w:=by first|exact eI rfl|exact eB rfl|exact eR rfl|exact eS rfl|exact eP rfl|exact eT rfl|exact eA rfl|exact eN rfl|exact eQ rfl|exact eF rfl|exact eD rfl) (hn:dQ (fun j=>aX j st) fl sz w=(m,ws,[],sd):=by (try simp (disch:=omega) only [aX,go_sem,reduceIte,Nat.reduceEqDiff,Nat.reduceAdd,Nat.reduceMul]);try rfl) (hs:sd:=by (try simp (disch:=omega) only [go_sem,reduceIte,Nat.reduceEqDiff,Nat.reduceAdd,Nat.reduceMul]);try omega) (ht:aX id st=u:=by first|exact eO rfl|exact eW rfl) (hg:bg u path=.osl sz2 n2 cs:=by (try simp only [go_sem]);try rfl) (hq:n+m=q:=by (try simp only [go_sem,reduceIte,Nat.reduceEqDiff,Nat.reduceAdd,Nat.reduceMul]);try rfl) (hb:q*bytes<=140737488355328:=by omega) (hm:q<=maxLen:=by unfold maxLen;omega) (hl:off+n*sz<=cs.length:=by (try simp only [go_sem]);first|omega|decide) (hc:win cs off (n*sz)++ws=cs':=by (try simp (disch:=omega) only [go_sem,reduceIte,Nat.reduceEqDiff,Nat.reduceAdd,Nat.reduceMul]);try rfl) (hd:fE .dead u path=u':=by (try simp only [go_sem]);try rfl):G P C all (⟨some t,.app fl sz bytes x y,none⟩::r) i k rs K sl st nx:=jq hf hx hy hn hs ht hg hq hb hm hl hc hd h
theorem Bf [ok:Ok C k] {f:FuncId} {xs:List HX} {vs:List HV} (hvs:xs.map (ev sl)=vs) (h:G P C all r (i+1) k rs K ((t,.fn f vs)::sl) st nx):G P C all (⟨some t,.mkfn f xs,none⟩::r) i k rs K sl st nx :=
 gV ok.mono ok.plain (v:=.fn f vs) (us:=[]) (side:=True) rfl (by rw [HOp.map,hvs]) rfl trivial rfl h
def abr:HV->Bool
 | .ptr ..=>true
 | .pref ..=>true
 | .fn ..=>true
 | _=>false
theorem cZ [ok:Ok C k] (hx:ev sl x=v) (hv:abr v=true) (h:G P C all r (i+1) k rs K ((t,v)::sl) st nx):G P C all (⟨some t,.nilck x,none⟩::r) i k rs K sl st nx :=
 gV ok.mono ok.plain (v:=v) (us:=[]) (side:=True) rfl (by rw [HOp.map,hx]) (by cases v<;>first|rfl|cases hv) trivial rfl h
theorem Zv {op:HOp HX} {j e:Nat} {want:Bool} (hd:(all[j]?).bind (·.dst)=some e) (hb:aX e sl=.bool want) (h:G P C all (⟨d,op,none⟩::r) i k rs K sl st nx):G P C all (⟨d,op,some (j,want)⟩::r) i k rs K sl st nx:=acr hd hb h
theorem aG {op:HOp HX} {j e:Nat} {want:Bool} (h:G P C all (⟨d,op,none⟩::r) i k rs K sl st nx) (hd:(all[j]?).bind (·.dst)=some e:=by rfl) (hb:aX e sl=.bool want:=by rfl):G P C all (⟨d,op,some (j,want)⟩::r) i k rs K sl st nx:=Zv hd hb h
theorem afb [ok:Ok C k] {op:HOp HX} {j e:Nat} {want:Bool} (hd:(all[j]?).bind (·.dst)=some e) (hb:aX e sl=.bool (!want)) (h:G P C all r (i+1) k rs K ((t,.tup [])::sl) st nx):G P C all (⟨some t,op,some (j,want)⟩::r) i k rs K sl st nx:=by
 refine aaR hd hb ?_
 exact o7 ok.mono ok.plain (s:=⟨(t,.tup [])::sl,st,nx⟩) (kT (us:=[]) (d:=some t) (v:=(.tup [])) rfl) h
theorem bZ [ok:Ok C k] {op:HOp HX} {j e:Nat} {want:Bool} (h:G P C all r (i+1) k rs K ((t,.tup [])::sl) st nx) (hd:(all[j]?).bind (·.dst)=some e:=by rfl) (hb:aX e sl=.bool (!want):=by rfl):G P C all (⟨some t,op,some (j,want)⟩::r) i k rs K sl st nx:=afb hd hb h
theorem tu [ok:Ok C k] {op:HOp HX} {j e:Nat} {want:Bool} (hd:(all[j]?).bind (·.dst)=some e) (hb:aX e sl=.tup []) (h:G P C all r (i+1) k rs K ((t,.tup [])::sl) st nx):G P C all (⟨some t,op,some (j,want)⟩::r) i k rs K sl st nx:=by
 refine Jm rfl hd hb ?_
 exact o7 ok.mono ok.plain (s:=⟨(t,.tup [])::sl,st,nx⟩) (kT (us:=[]) (d:=some t) (v:=.tup []) rfl) h
theorem Zp {nx':Nat} (hn:nx+stride*all.length=nx') (h:hx P k (finish rs K) ⟨sl,st,nx'⟩):G P C all [] i k rs K sl st nx:=by
 subst hn
 show hx P (.o C all [] i::k) (finish rs K) ⟨sl,st,nx⟩
 rw [KR];exact h
theorem ag {nx':Nat} (h:hx P k (finish rs K) ⟨sl,st,nx'⟩) (hn:nx+stride*all.length=nx':=by (try simp only [go_sem,reduceIte,Nat.reduceEqDiff,Nat.reduceAdd,Nat.reduceMul]);try rfl):G P C all [] i k rs K sl st nx:=Zp hn h
theorem bf [ok:Ok (HS P) k] {f:FuncId} {xs:List HX} {vs args:List HV} {K':HV->Prop} (hvs:xs.map (ev sl)=vs) (ha:dL dC (fun j=>aX j st) vs=args) (hC:HT P f args K')
  (h:∀v,K' v->(bT vs || v.noRd)=true/\∃v' us n2 sl' st',unpack (nx+stride*i) v=(v',us,n2)/\n2<=nx+stride*(i+1)/\Aw d v' (sQ sl st us)=(sl',st')/\G P (HS P) all r (i+1) k rs K sl' st' nx) :
  G P (HS P) all (⟨d,.call f xs,none⟩::r) i k rs K sl st nx:=by
 subst hvs
 refine Nl (ha▸hC) ?_
 intro v hv
 obtain ⟨h1,v',us,n2,sl',st',h2,h3,h4,h5⟩:=h v hv
 rw [h2]
 exact ⟨h1,h3,o7 ok.mono ok.plain (kT h4) h5⟩
theorem bG {D:FuncId->List HV->HV->Prop} [ok:Ok (CS P D) k] {f:FuncId} {xs:List HX} {vs args:List HV} (hvs:xs.map (ev sl)=vs) (ha:dL dC (fun j=>aX j st) vs=args) (hC:HT P f args (D f args)) (hex:∃r,D f args r/\r.deep=[])
  (h:∀v,D f args v->v.deep=[]->(bT vs || v.noRd)=true/\∃v' us n2 sl' st',unpack (nx+stride*i) v=(v',us,n2)/\n2<=nx+stride*(i+1)/\Aw d v' (sQ sl st us)=(sl',st')/\G P (CS P D) all r (i+1) k rs K sl' st' nx) :
  G P (CS P D) all (⟨d,.call f xs,none⟩::r) i k rs K sl st nx:=by
 subst hvs ha
 refine JU hC hex ?_
 intro v hv hd
 obtain ⟨h1,v',us,n2,sl',st',h2,h3,h4,h5⟩:=h v hv hd
 rw [h2]
 exact ⟨h1,h3,o7 ok.mono ok.plain (kT h4) h5⟩
theorem BI [ok:Ok (HS P) k] {f:FuncId} {xs:List HX} {cap vs args:List HV} {K':HV->Prop} (hx:ev sl x=.fn f cap) (hvs:xs.map (ev sl)=vs) (ha:dL dC (fun j=>aX j st) (vs++cap)=args) (hC:HT P f args K')
  (h:∀v,K' v->(bT (vs++cap) || v.noRd)=true/\∃v' us n2 sl' st',unpack (nx+stride*i) v=(v',us,n2)/\n2<=nx+stride*(i+1)/\Aw d v' (sQ sl st us)=(sl',st')/\G P (HS P) all r (i+1) k rs K sl' st' nx) :
  G P (HS P) all (⟨d,.callv x xs,none⟩::r) i k rs K sl st nx:=by
 subst hvs
 refine MX hx (ha▸hC) ?_
 intro v hv
 obtain ⟨h1,v',us,n2,sl',st',h2,h3,h4,h5⟩:=h v hv
 rw [h2]
 exact ⟨h1,h3,o7 ok.mono ok.plain (kT h4) h5⟩
end
section
variable {P:Program} {k:List HI} {Q:HE->St->Prop} {s:St}
def LI {α:Type} (Inv:α->Prop) (S:α->St) (s:St):Prop:=∃a,Inv a/\s=S a
open Classical in
noncomputable def Lμ {α:Type} (Inv:α->Prop) (S:α->St) (m:α->Nat) (s:St):Nat:=if h:∃n,∃a,Inv a/\s=S a/\m a=n then Classical.choose (tN h) else 0
theorem DY {α:Type} {Inv:α->Prop} {S:α->St} {m:α->Nat} {s:St} (h:LI Inv S s):(∃a,Inv a/\s=S a/\m a=Lμ Inv S m s)/\∀a,Inv a->s=S a->Lμ Inv S m s<=m a:=by
 have hex:∃n,∃a,Inv a/\s=S a/\m a=n:=by obtain ⟨a,h1,h2⟩:=h;exact ⟨m a,a,h1,h2,rfl⟩
 have e:Lμ Inv S m s=Classical.choose (tN hex):=by unfold Lμ;rw [dif_pos hex]
 rw [e]
 have hs:=Classical.choose_spec (tN hex)
 exact ⟨hs.1,fun a h1 h2=>hs.2 _ ⟨a,h1,h2,rfl⟩⟩
theorem bD {α:Type} {b:HCode} (keep:List Nat) (Inv:α->Prop) (S:α->St) (m:α->Nat) (a0:α) (h0:Inv a0) (hn:norm2 keep s=S a0) (hr:∀a,Inv a->hx P (.c b::.l (LI Inv S) (Lμ Inv S m) (m a)::k) Q (S a)):hx P (.c (.loop b)::k) Q s:=by
 refine Nj (LI Inv S) (Lμ Inv S m) (S a0) (hn▸Weak.norm2 keep s) ⟨a0,h0,rfl⟩ ?_
 intro s1 h1
 obtain ⟨⟨a,h2,h3,h4⟩,_⟩:=DY (m:=m) h1
 rw [<- h4]
 subst h3
 exact hr a h2
theorem bJ {α:Type} {n:Nat} (keep:List Nat) {Inv:α->Prop} {S:α->St} {m:α->Nat} (a:α) (h1:Inv a) (h2:m a<n) (hn:norm2 keep s=S a):hx P (.l (LI Inv S) (Lμ Inv S m) n::k) Q s:=by
 refine aee (S a) (hn▸Weak.norm2 keep s) ⟨a,h1,rfl⟩ ?_
 exact Nat.lt_of_le_of_lt ((DY (m:=m) ⟨a,h1,rfl⟩).2 a h1 rfl) h2
theorem kE {x:HCode} (id:Nat) (keep:List Nat) (s0:St) (hn:norm2 keep (freeze id s)=s0) (h:hx P (.c x::k) Q s0):hx P (.c x::k) Q s:=lM ((Weak.freeze id s).trans (hn▸Weak.norm2 keep (freeze id s))) h
theorem zS {x:HCode} (id:Nat) (keep:List Nat) (s0:St) (hn:norm2 keep (unbox id s)=s0) (h:hx P (.c x::k) Q s0):hx P (.c x::k) Q s:=lM ((Weak.unbox id s).trans (hn▸Weak.norm2 keep (unbox id s))) h
theorem EU {x:HCode} (t:Nat) (keep:List Nat) (s0:St) (hn:norm2 keep (detach t s)=s0) (h:hx P (.c x::k) Q s0):hx P (.c x::k) Q s:=lM ((Weak.detach t s).trans (hn▸Weak.norm2 keep (detach t s))) h
theorem dO {x:HCode} (keep:List Nat) (s0:St) (hn:norm2 keep s=s0) (h:hx P (.c x::k) Q s0):hx P (.c x::k) Q s:=lM (hn▸Weak.norm2 keep s) h
theorem jV {rs:List Nat} {K:HV->Prop} {sl st:List (Nat×HV)} {nx:Nat} {vs0 vs:List HV} {us:List Upd} {side:Prop} (hvs:(rs.map fun r=>aX r sl)=vs0) (h0:bF (fun j=>aX j st) vs0=(vs,us,side)) (hs:side) (hK:K (dP vs)) :
  hx P (.c .ret::k) (finish rs K) ⟨sl,st,nx⟩:=Nq (by rw [hvs];exact h0) hs hK
theorem ay {rs:List Nat} {K:HV->Prop} {sl st:List (Nat×HV)} {nx:Nat} {vs0 vs:List HV} {us:List Upd} {side:Prop} (hK:K (dP vs)) (hvs:(rs.map fun r=>aX r sl)=vs0:=by (try simp only [List.map_cons,List.map_nil]);repeat (first|(apply eL1;· exact fP)|rfl)) (h0:bF (fun j=>aX j st) vs0=(vs,us,side):=by simp only [bF,takeD,takeC,aX,Lk.upd,if_true,if_false,reduceIte,Nat.reduceEqDiff,List.append_nil,List.nil_append];try rfl) (hs:side:=by first|trivial|(refine ⟨?_,?_⟩<;>trivial)|(simp only [and_true,true_and];done)):hx P (.c .ret::k) (finish rs K) ⟨sl,st,nx⟩:=jV hvs h0 hs hK
end
theorem lJ {P:Program} {rs:List Nat} {K:HV->Prop} {sl st:List (Nat×HV)} {nx:Nat} {vs0 vs:List HV} {us:List Upd} {side:Prop} (hvs:(rs.map fun r=>aX r sl)=vs0) (h0:bF (fun j=>aX j st) vs0=(vs,us,side)) (hs:side) (hK:K (dP vs)) :
  hx P [] (finish rs K) ⟨sl,st,nx⟩:=by
 unfold hx hk finish
 simp only
 have hM:St.M ⟨sl,st,nx⟩=fun j=>aX j st:=rfl
 rw [hM,hvs,h0]
 exact ⟨hs,hK⟩
theorem Fg {P:Program} {k:List HI} {Q:HE->St->Prop} {x:HCode} {sl st:List (Nat×HV)} {nx:Nat} (t:Nat) (keep:List Nat) {id j sz m n:Nat} {cs ds:List HV} (s0:St) (h1:aX t sl=.ref id [j] sz 0 m) (h2:aX id st=.optr cs) (h3:cs.getD j .dead=.osl sz n ds) (h4:m<=n) (h5:dA ds=true) (h6:0<sz)
  (hn:norm2 keep ⟨(t,.ref nx [] sz 0 m)::sl.map fun p=>(p.1,p.2.kill id 0),(nx,.osl sz m (ds.take (m*sz)))::(id,.optr (cs.set j .dead))::st,nx+1⟩=s0) (h:hx P (.c x::k) Q s0):hx P (.c x::k) Q ⟨sl,st,nx⟩:=by
 refine EU t keep s0 ?_ h
 have e:detach t ⟨sl,st,nx⟩=⟨(t,.ref nx [] sz 0 m)::sl.map fun p=>(p.1,p.2.kill id 0),(nx,.osl sz m (ds.take (m*sz)))::(id,.optr (cs.set j .dead))::st,nx+1⟩:=by
  have a1:St.S ⟨sl,st,nx⟩ t=.ref id [j] sz 0 m:=h1
  have a2:St.M ⟨sl,st,nx⟩ id=.optr cs:=h2
  unfold detach
  rw [a1]
  simp only
  rw [a2]
  simp only [h3]
  rw [if_pos ⟨trivial,h4,h5,h6⟩]
 rw [e];exact hn
theorem Fj {P:Program} {k:List HI} {Q:HE->St->Prop} {x:HCode} {sl st:List (Nat×HV)} {nx:Nat} (t:Nat) (keep:List Nat) {id sz m n:Nat} {ds:List HV} (s0:St) (h1:aX t sl=.ref id [] sz 0 m) (h2:aX id st=.osl sz n ds) (h4:m<=n) (h5:dA ds=true) (h6:0<sz)
  (hn:norm2 keep ⟨(t,.ref nx [] sz 0 m)::sl,(nx,.osl sz m (ds.take (m*sz)))::(id,.dead)::st,nx+1⟩=s0) (h:hx P (.c x::k) Q s0):hx P (.c x::k) Q ⟨sl,st,nx⟩:=by
 have e:shrink t ⟨sl,st,nx⟩=⟨(t,.ref nx [] sz 0 m)::sl,(nx,.osl sz m (ds.take (m*sz)))::(id,.dead)::st,nx+1⟩:=by
  have a1:St.S ⟨sl,st,nx⟩ t=.ref id [] sz 0 m:=h1
  have a2:St.M ⟨sl,st,nx⟩ id=.osl sz n ds:=h2
  unfold shrink
  rw [a1]
  simp only
  rw [a2]
  simp only
  rw [if_pos ⟨trivial,h4,h5,h6⟩]
 exact lM ((Weak.shrink t ⟨sl,st,nx⟩).trans (by rw [e];exact hn▸Weak.norm2 keep _)) h
theorem Dv {P:Program} {k:List HI} {Q:HE->St->Prop} {sl st:List (Nat×HV)} {nx:Nat} {o:aS} {r:List aS} {f:FuncId} {vs ts:List HV} {us:List Upd} {sd:Prop} (io ids:List Nat) {K':HV->List HV->Prop} (hog:o.guard=none) (hc:kY ⟨sl,st,nx⟩ o.op=some (f,vs)) (ht:bF (fun j=>aX j st) vs=(ts,us,sd)) (hs:sd) (hio:(io.map (fun j=>vs[j]?)=ids.map fun id=>some (HV.pref id [] 0))) (hids:ids.Nodup) (hC:HTI P f ts io K') (hg:(r.all fun o=>o.guard.isNone)=true)
  (h:∀v outs,K' v outs->outs.length=ids.length->∃v' us' n2 sl' st',unpack nx v=(v',us',n2)/\Aw o.dst v' (sQ sl st (us++kills ids++jk ids outs++us'))=(sl',st')/\hx P (.c (.region none r)::k) Q ⟨sl',st',n2⟩):hx P (.c (.region none (o::r))::k) Q ⟨sl,st,nx⟩:=by
 have hM:(⟨sl,st,nx⟩:St).M=fun j=>aX j st:=rfl
 refine KY io ids hg hog hc (by rw [hM,ht];exact hs) hio hids (K':=K') (by rw [hM,ht];exact hC) ?_
 intro v outs hv hl
 obtain ⟨v',us',n2,sl',st',h2,h4,h5⟩:=h v outs hv hl
 rw [hM,ht]
 show hx P _ Q { ((St.upd ⟨sl,st,nx⟩ (us++kills ids++jk ids outs++(unpack nx v).2.1)).put o.dst (unpack nx v).1) with nx:=(unpack nx v).2.2 }
 rw [h2]
 have he:=kT (nx:=nx) h4
 refine lM (Eqv.weak (s':={ ((St.upd ⟨sl,st,nx⟩ (us++kills ids++jk ids outs++us')).put o.dst v') with nx:=n2 }) (s:=⟨sl',st',n2⟩) ⟨he.1,he.2.1,rfl⟩ (Weak.refl _)) h5
theorem vU {P:Program} {k:List HI} {Q:HE->St->Prop} {sl st:List (Nat×HV)} {nx:Nat} {d:Option Nat} {f:FuncId} {xs:List HX} {r:List aS} {vs ts:List HV} {us:List Upd} {sd:Prop} (io ids:List Nat) {K':HV->List HV->Prop} (hvs:xs.map (ev sl)=vs) (ht:bF (fun j=>aX j st) vs=(ts,us,sd)) (hs:sd) (hio:(io.map (fun j=>vs[j]?)=ids.map fun id=>some (HV.pref id [] 0))) (hids:ids.Nodup) (hC:HTI P f ts io K') (hg:(r.all fun o=>o.guard.isNone)=true)
  (h:∀v outs,K' v outs->outs.length=ids.length->∃v' us' n2 sl' st',unpack nx v=(v',us',n2)/\Aw d v' (sQ sl st (us++kills ids++jk ids outs++us'))=(sl',st')/\hx P (.c (.region none r)::k) Q ⟨sl',st',n2⟩):hx P (.c (.region none (⟨d,.call f xs,none⟩::r))::k) Q ⟨sl,st,nx⟩ :=
 Dv io ids rfl (by subst hvs;rfl) ht hs hio hids hC hg h
theorem Ae {P:Program} {k:List HI} {Q:HE->St->Prop} {sl st:List (Nat×HV)} {nx:Nat} {d:Option Nat} {f:FuncId} {x:HX} {cap:List HV} {xs:List HX} {r:List aS} {vs ts:List HV} {us:List Upd} {sd:Prop} (io ids:List Nat) {K':HV->List HV->Prop} (hf:ev sl x=.fn f cap) (hvs:xs.map (ev sl)++cap=vs) (ht:bF (fun j=>aX j st) vs=(ts,us,sd)) (hs:sd) (hio:(io.map (fun j=>vs[j]?)=ids.map fun id=>some (HV.pref id [] 0))) (hids:ids.Nodup) (hC:HTI P f ts io K') (hg:(r.all fun o=>o.guard.isNone)=true)
  (h:∀v outs,K' v outs->outs.length=ids.length->∃v' us' n2 sl' st',unpack nx v=(v',us',n2)/\Aw d v' (sQ sl st (us++kills ids++jk ids outs++us'))=(sl',st')/\hx P (.c (.region none r)::k) Q ⟨sl',st',n2⟩):hx P (.c (.region none (⟨d,.callv x xs,none⟩::r))::k) Q ⟨sl,st,nx⟩ :=
 Dv io ids rfl (by subst hvs;simp only [kY,HOp.map,hf]) ht hs hio hids hC hg h
theorem HT.weak {P:Program} {f:FuncId} {args args':List HV} {K:HV->Prop} (h:HT P f args K) (hw:∀ (F:Nat->Prop) (hh:Hp) (rargs:List Value),OW F hh dN args' rargs []->OW F hh dN args rargs []):HT P f args' K :=
 ⟨h.1,fun w r F hF ho=>h.2 w r F hF (hw F w.heap r ho)⟩
end Go.HL
end
section
namespace Go.HL
open Go.RowKit
section
variable {P:Program} {E:Fr} {N fr:Nat} {sl st:Lk} {loc:Nat->Value} {fp:Nat->List Nat} {a:Act} {w:World}
theorem SRel.same {s s':St} (h:SRel E N s a w) (h1:s.S=s'.S) (h2:s.M=s'.M):SRel E N s' a w:=by
 obtain ⟨loc,fp,h⟩:=h
 exact ⟨loc,fp,h1▸h2▸h⟩
theorem SRel.freeze {s:St} (id:Nat) (h:SRel E N s a w):SRel E N (freeze id s) a w:=Weak.freeze id { s with nx:=N } E a w h
end
section
variable {P:Program} {all r:List aS} {i:Nat} {k:List HI} {rs:List Nat} {K:HV->Prop} {sl sl1 sl' st:List (Nat×HV)} {nx:Nat} {x y:HX} {t id sz bytes n m fr q:Nat} {cs ws cs':List HV} {v:HV} {sd:Prop}
theorem Ju {P:Program} {s:St} {i:Nat} {d:Option Nat} {op:HOp HX} {f:FuncId} {vs ts:List HV} {us:List Upd} {sd:Prop} {io ids:List Nat} {K':HV->List HV->Prop} {K:St->Prop} (hc:kY s op=some (f,vs)) (ht:bF s.M vs=(ts,us,sd)) (hs:sd) (hio:(io.map (fun j=>vs[j]?)=ids.map fun id=>some (HV.pref id [] 0))) (hids:ids.Nodup) (hC:HTI P f ts io K')
  (h:∀v outs,K' v outs->outs.length=ids.length->(unpack (s.nx+stride*i) v).2.2<=s.nx+stride*(i+1)/\K ((s.upd (us++kills ids++jk ids outs++(unpack (s.nx+stride*i) v).2.1)).put d (unpack (s.nx+stride*i) v).1)):zX P s i d op K:=by
 intro E ro a w next Q hd ho hr hn
 have h0:(s.M:Lk)=St.M { s with nx:=s.nx+stride*i }:=rfl
 have e1:ro.wp P a w next Q=({ ro with guard:=none }:Oper).wp P a w next Q:=rfl
 rw [e1]
 refine qK (s:={ s with nx:=s.nx+stride*i }) (K:=fun s1=>s1.nx<=s.nx+stride*(i+1)/\K { s1 with nx:=s.nx }) hr ?_ ?_
 ·have ht':(bP P E.ok { ro with guard:=none }).op=op:=by rw [<- ho];rfl
  have hd':(bP P E.ok { ro with guard:=none }).dst=d:=hd
  refine ⟨rfl,f,vs,io,ids,by rw [ht'];exact hc,by rw [<- h0,ht];exact hs,hio,hids,?_⟩
  rw [<- h0,ht,hd']
  refine hC.mono fun v outs hv hl=>?_
  obtain ⟨h1,h2⟩:=h v outs hv hl
  refine ⟨h1,?_⟩
  have e2:∀ (us:List Upd) (d:Option Nat) (v:HV) (n:Nat),({ ((St.upd { s with nx:=s.nx+stride*i } us).put d v) with nx:=n }:St)={ ((s.upd us).put d v) with nx:=n }:=by
   intro us d v n
   have:∀ (us:List Upd) (s:St) (m:Nat),St.upd { s with nx:=m } us={ s.upd us with nx:=m }:=by
    intro us
    induction us with
    | nil=>intro s m;rfl
    | cons u us ih =>
     intro s m
     cases u with
     | put id t=>exact ih { s with st:=uw id t s.st } m
     | kill id len=>exact ih { s with sl:=s.sl.map fun p=>(p.1,p.2.kill id len) } m
   rw [this]
   cases d<;>rfl
  have e3:∀ (us:List Upd) (d:Option Nat) (v:HV),({ ((s.upd us).put d v) with nx:=s.nx }:St)=(s.upd us).put d v:=by
   intro us d v
   have h4:=St.put_nx (s.upd us) d v
   rw [St.upd_nx] at h4
   rw [<- h4]
  show K { ({ ((St.upd { s with nx:=s.nx+stride*i } (us++kills ids++jk ids outs++(unpack (s.nx+stride*i) v).2.1)).put d (unpack (s.nx+stride*i) v).1) with nx:=(unpack (s.nx+stride*i) v).2.2 }:St) with nx:=s.nx }
  rw [e2]
  show K { ((s.upd _).put d _) with nx:=s.nx }
  rw [e3]
  exact h2
 ·rintro s1 a' w' ⟨h1,h2⟩ hr'
  refine hn { s1 with nx:=s.nx } a' w' rfl (SRel.same (hr'.up h1) rfl rfl) h2
theorem NI [ok:Ok (HS P) k] {d:Option Nat} {op:HOp HX} {f:FuncId} {vs ts:List HV} {us:List Upd} {io ids:List Nat} {K':HV->List HV->Prop} (hc:kY ⟨sl,st,nx⟩ op=some (f,vs)) (ht:bF (fun j=>aX j st) vs=(ts,us,sd)) (hs:sd) (hio:(io.map (fun j=>vs[j]?)=ids.map fun id=>some (HV.pref id [] 0))) (hids:ids.Nodup) (hC:HTI P f ts io K')
  (h:∀v outs,K' v outs->outs.length=ids.length->∃v' us' n2 sl' st',unpack (nx+stride*i) v=(v',us',n2)/\n2<=nx+stride*(i+1)/\Aw d v' (sQ sl st (us++kills ids++jk ids outs++us'))=(sl',st')/\G P (HS P) all r (i+1) k rs K sl' st' nx):G P (HS P) all (⟨d,op,none⟩::r) i k rs K sl st nx:=by
 refine GM (Ju (s:=⟨sl,st,nx⟩) hc ht hs hio hids hC ?_)
 intro v outs hv hl
 obtain ⟨v',us',n2,sl',st',h2,h3,h4,h5⟩:=h v outs hv hl
 show (unpack (nx+stride*i) v).2.2<=nx+stride*(i+1)/\hx P _ _ ((St.upd ⟨sl,st,nx⟩ (us++kills ids++jk ids outs++(unpack (nx+stride*i) v).2.1)).put d (unpack (nx+stride*i) v).1)
 rw [h2]
 exact ⟨h3,o7 ok.mono ok.plain (kT h4) h5⟩
theorem pz [ok:Ok (HS P) k] {d:Option Nat} {f:FuncId} {xs:List HX} {vs ts:List HV} {us:List Upd} (io ids:List Nat) {K':HV->List HV->Prop} (hvs:xs.map (ev sl)=vs) (ht:bF (fun j=>aX j st) vs=(ts,us,sd)) (hs:sd) (hio:(io.map (fun j=>vs[j]?)=ids.map fun id=>some (HV.pref id [] 0))) (hids:ids.Nodup) (hC:HTI P f ts io K')
  (h:∀v outs,K' v outs->outs.length=ids.length->∃v' us' n2 sl' st',unpack (nx+stride*i) v=(v',us',n2)/\n2<=nx+stride*(i+1)/\Aw d v' (sQ sl st (us++kills ids++jk ids outs++us'))=(sl',st')/\G P (HS P) all r (i+1) k rs K sl' st' nx):G P (HS P) all (⟨d,.call f xs,none⟩::r) i k rs K sl st nx :=
 NI (by subst hvs;rfl) ht hs hio hids hC h
theorem OI {P:Program} {o:Oper} {nz:Nat} {x:HX} (h:bV P o=.mv nz x):∃y,(o.op=.move y\/o.op=.assign y)/\x=gK y:=by
 unfold bV at h
 repeat' split at h
 all_goals (first|(cases h;done)|(unfold yX at h;split at h<;>(cases h;done))|skip)
 all_goals cases h
 ·exact ⟨_,.inl ‹_›,rfl⟩
 ·exact ⟨_,.inr ‹_›,rfl⟩
theorem NV {P:Program} {s:St} {i t nz:Nat} {x:HX} {K:St->Prop} (hx:ev s.sl x=.nils) (hK:K (s.put (some t) .nils)):zX P s i (some t) (.mv nz x) K:=by
 intro E ro a w next Q hd ho hr hn
 have hdst:ro.dst=some t:=hd
 have hop:bV P ro=.mv nz x:=by
  unfold bP at ho
  by_cases h:(ro.dst.all fun d=>E.ok d)=true
  ·simpa [h] using ho
  ·simp [h] at ho
 have hok:E.ok t=true:=by
  unfold bP at ho
  by_cases h:(ro.dst.all fun d=>E.ok d)=true
  ·simpa [hdst] using h
  ·simp [h] at ho
 obtain ⟨y,hy,rfl⟩:=OI hop
 obtain ⟨loc,fp,hr⟩:=hr
 have hv:=hr.val y
 rw [<- jU] at hv
 rw [hx] at hv
 have hrun:(execOp a.eval ro).run P w=.ok (.value (a.eval y)) w:=by
  obtain ⟨dst,op,type,pos,after,guard⟩:=ro
  rcases hy with h|h<;>(simp only at h;subst h;rfl)
 unfold Oper.wp
 rw [hrun]
 show next (a.put ro.dst (a.eval y)) w
 rw [hdst]
 have hA:After E (s.nx+stride*i) s.S s.M [] .nils (a.eval y) a w:=hr.pure (Nat.le_refl _) hv
 have h3:=SRel.done (s:=s) (d:=some t) hA (fun t' ht=>by cases ht;exact hok)
 exact hn (s.put (some t) .nils) _ _ (St.put_nx _ _ _) (h3.up (by unfold stride;omega)) hK
theorem Ie [ok:Ok (HS P) k] {nz:Nat} (hx:ev sl x=.nils) (h:G P (HS P) all r (i+1) k rs K ((t,.nils)::sl) st nx):G P (HS P) all (⟨some t,.mv nz x,none⟩::r) i k rs K sl st nx:=by
 refine GM (NV (s:=⟨sl,st,nx⟩) hx ?_)
 refine o7 ok.mono ok.plain ?_ h
 refine ⟨?_,rfl,rfl⟩
 funext j
 exact Il j t .nils sl
end
theorem fP {p:Prop} (h:p:=by first|exact eI rfl|exact eB rfl|exact eR rfl|exact eS rfl|exact eP rfl|exact eT rfl|exact eA rfl|exact eN rfl|exact eQ rfl|exact eF rfl|exact eD rfl):p:=h
theorem gU {p:Prop} (h:p:=by (try simp only [go_sem,reduceIte,Nat.reduceEqDiff,Nat.reduceAdd,Nat.reduceMul]);try rfl):p:=h
theorem dI {p:Prop} (h:p:=by simp (disch:=omega) only [dL,HV.thaw,dC,aX,bg,if_true,if_false,reduceIte,Nat.reduceEqDiff,stripL,HV.strip,fF,dJ,eG,Nat.mul_one,List.cons_append,List.nil_append,List.append_nil,I,Bl,T3,Es,List.getD_cons_zero,List.getD_cons_succ,HL.ints_strip,HL.bools_strip,eu,dS];try rfl):p:=h
theorem dE {p:Prop} (h:p:=by simp only [bT,HV.refFree,ig,HV.noRd,HL.ints_noRd,HL.bools_noRd,zK,GY,Bool.or_true,Bool.true_or,Bool.or_false,Bool.false_or,Bool.and_true,Bool.true_and,Bool.and_self,List.isEmpty_nil,beq_self_eq_true,List.cons_append,List.nil_append]):p:=h
theorem dw {p:Prop} (h:p:=by simp only [unpack,bH,List.append_nil,List.nil_append,List.cons_append,stride,Nat.reduceAdd,Nat.reduceMul,Nat.zero_add];try rfl):p:=h
theorem zT5 {p:Prop} (h:p:=by simp only [bF,takeD,takeC,aX,Lk.upd,if_true,if_false,reduceIte,Nat.reduceEqDiff,List.append_nil,List.nil_append];try rfl):p:=h
theorem zT6 {p:Prop} (h:p:=by first|exact ltT (by omega)|exact ltF (by omega)|rfl):p:=h
theorem ug {p:Prop} (h:p:=by first|trivial|(refine ⟨?_,?_⟩<;>trivial)|(simp only [and_true,true_and];done)):p:=h
theorem AY {p:Prop} (h:p:=by (try simp (disch:=omega) only [aX,go_sem,reduceIte,Nat.reduceEqDiff,Nat.reduceAdd,Nat.reduceMul]);try rfl):p:=h
theorem qp {p:Prop} (h:p:=by first|rfl|exact HL.ints_flat _|exact HL.bools_flat _|exact kF _):p:=h
theorem nV {p:Prop} (h:p:=by (try simp (disch:=omega) only [go_sem,Int.reduceAdd,Int.reduceSub,Int.reduceMul]);try rfl):p:=h
theorem jH {p:Prop} (h:p:=by simp only [bF,takeD,takeC,aX,Lk.upd,if_true,if_false,reduceIte,Nat.reduceEqDiff,List.append_nil,List.nil_append,List.cons_append];try rfl):p:=h
theorem wV {p:Prop} (h:p:=by simp only [sQ,Aw,kills,jk,List.zip_cons_cons,List.zip_nil_right,List.map_cons,List.map_nil,HV.kill,l9,List.length_nil,List.length_cons,Nat.reduceEqDiff,Nat.reduceLT,Nat.lt_irrefl,Nat.reduceAdd,if_true,if_false,reduceIte,and_true,true_and,and_false,false_and,and_self,reduceCtorEq,List.append_nil,List.nil_append,List.cons_append];try rfl):p:=h
theorem aJ {p:Prop} (h:p:=by (try simp only [List.map_cons,List.map_nil]);repeat (first|(apply eL1;· exact fP)|rfl)):p:=h
theorem aT {p:Prop} (h:p:=by (try simp only [go_sem]);first|omega|decide):p:=h
theorem bW {p:Prop} (h:p:=by (try simp only [go_sem]);try rfl):p:=h
theorem O9 {p:Prop} (h:p:=by simp only [sQ,List.cons_append,List.nil_append,List.append_nil,List.map_cons,List.map_nil,HV.kill,l9,List.length_nil,List.length_cons,Nat.reduceEqDiff,Nat.reduceLT,Nat.reduceAdd,if_true,if_false,reduceIte,and_true,true_and,and_false,false_and,and_self,reduceCtorEq,Nat.lt_irrefl];try rfl):p:=h
theorem mg {p:Prop} (h:p:=by (try simp (disch:=omega) only [go_sem]);try rfl):p:=h
theorem dm {p:Prop} (h:p:=by first|exact eO rfl|exact eW rfl):p:=h
theorem MZ {p:Prop} (h:p:=by (try simp (disch:=omega) only [go_sem,reduceIte,Nat.reduceEqDiff,Nat.reduceAdd,Nat.reduceMul]);try rfl):p:=h
theorem yK {p:Prop} (h:p:=by simp only [fO,takeC,aX,Lk.upd,if_true,if_false,reduceIte,Nat.reduceEqDiff,List.append_nil,List.nil_append,List.cons_append];try rfl):p:=h
theorem aQ {p:Prop} (h:p:=by simp only [sQ,Aw];try rfl):p:=h
theorem afJ {p:Prop} (h:p:=by first|exact neF (by omega)|exact neT (by omega)|rfl):p:=h
theorem afT {p:Prop} (h:p:=by first|exact eqT (by omega)|exact eqF (by omega)|rfl):p:=h
theorem O6 {p:Prop} (h:p:=by simp only [Lk.upd,aX,if_true,if_false,reduceIte,Nat.reduceEqDiff,reduceCtorEq];try rfl):p:=h
theorem afQ {p:Prop} (h:p:=by first|exact leT (by omega)|exact leF (by omega)|rfl):p:=h
theorem KE {p:Prop} (h:p:=by first|trivial|(refine ⟨?_,?_⟩<;>trivial)):p:=h
theorem bi {p:Prop} (h:p:=by kernel_rfl):p:=h
theorem OY {p:Prop} (h:p:=by first|exact Nat.zero_lt_one|decide):p:=h
theorem ng {p:Prop} (h:p:=by (try simp only [List.map_cons,List.map_nil]);repeat (first|(apply eP1;· exact fP)|rfl)):p:=h
theorem nD {p:Prop} (h:p:=by simp only [mG,setFrom,cellsOf,List.set_cons_zero,List.set_cons_succ];try rfl):p:=h
theorem aaX {p:Prop} (h:p:=by (try simp (disch:=omega) only [go_sem,reduceIte,Nat.reduceEqDiff,Nat.reduceAdd,Nat.reduceMul]);try omega):p:=h
theorem dV {p:Prop} (h:p:=by simp only;omega):p:=h
theorem jT {p:Prop} (h:p:=by unfold maxLen;omega):p:=h
end Go.HL
end
