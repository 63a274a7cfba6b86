import Derived.Test.YtlbdmpjnmfmnfaaHl4
import Derived.Maps.RangeRun
set_option linter.unusedSimpArgs false
set_option linter.unusedVariables false
section
namespace Go.HL
def sorted:List (Nat×HV)->Bool
 | []=>true
 | (k,_)::r=>(match r with|[]=>true|(k2,_)::_=>decide (k<k2))&&sorted r
theorem tV {p:Nat->Prop} (h:∃m,p m):∃m,p m/\∀k,p k->m<=k:=by
 obtain ⟨m,hm⟩:=h
 induction m using Nat.strongRecOn with
 | _ m ih =>
  by_cases h:∃k,k<m/\p k
  ·obtain ⟨k,h1,h2⟩:=h;exact ih k h1 h2
  ·exact ⟨m,hm,fun k hk=>by
    rcases Nat.lt_or_ge k m with h1|h1
    ·exact absurd ⟨k,h1,hk⟩ h
    ·exact h1⟩
end Go.HL
end
section
namespace Go.HL
abbrev Tbl:=List (FuncId×HCode×List Nat×Nat)
def tblOK (P:Program) (tbl:Tbl):Prop:=∀e∈tbl,dF P e.1=some e.2
theorem tblOK.nil {P:Program}:tblOK P []:=by intro e h;cases h
theorem tblOK.cons {P:Program} {f c rs T} {tbl:Tbl} (h:dF P f=some (c,rs,T)) (h2:tblOK P tbl):tblOK P ((f,c,rs,T)::tbl):=by
 intro e he
 rcases List.mem_cons.1 he with rfl|he
 ·exact h
 ·exact h2 e he
mutual
def HV.eqb:HV->HV->Bool
 | .int k n,.int k' n'=>decide (k=k')&&decide (n=n')
 | .bool b,.bool b'=>b==b'
 | .nils,.nils=>true
 | .nilp,.nilp=>true
 | .nilf,.nilf=>true
 | .sl n cs,.sl n' cs'=>decide (n=n')&&Ik cs cs'
 | .ptr cs o,.ptr cs' o'=>decide (o=o')&&Ik cs cs'
 | .agg cs,.agg cs'=>Ik cs cs'
 | .tup cs,.tup cs'=>Ik cs cs'
 | .fn f cs,.fn f' cs'=>decide (f=f')&&Ik cs cs'
 | _,_=>false
def Ik:List HV->List HV->Bool
 | [],[]=>true
 | a::r,b::q=>HV.eqb a b&&Ik r q
 | _,_=>false
end
abbrev YO:=List (FuncId×List HV×HV)
def memoOK (P:Program) (m:YO):Prop:=∀e∈m,HT P e.1 e.2.1 (·=e.2.2)
theorem memoOK.nil {P:Program}:memoOK P []:=by intro e h;cases h
theorem memoOK.cons {P:Program} {f:FuncId} {a:List HV} {v:HV} {m:YO} (h:HT P f a (·=v)) (h2:memoOK P m):memoOK P ((f,a,v)::m):=by
 intro e he
 rcases List.mem_cons.1 he with rfl|he
 ·exact h
 ·exact h2 e he
end Go.HL
end
section
namespace Go.HL
open Go.RowKit
def Eqv (s s':St):Prop:=s.S=s'.S/\s.M=s'.M/\s.nx=s'.nx
theorem Eqv.refl (s:St):Eqv s s:=⟨rfl,rfl,rfl⟩
theorem Eqv.symm {s s':St} (h:Eqv s s'):Eqv s' s:=⟨h.1.symm,h.2.1.symm,h.2.2.symm⟩
theorem Eqv.upd {s s':St} (h:Eqv s s') (us:List Upd) (d:Option Nat) (v:HV):Eqv ((s.upd us).put d v) ((s'.upd us).put d v):=by
 refine ⟨?_,?_,?_⟩
 ·rw [St.put_S,St.put_S,St.upd_S,St.upd_S,h.1]
 ·rw [St.put_M,St.put_M,St.upd_M,St.upd_M,h.2.1]
 ·rw [St.put_nx,St.put_nx,St.upd_nx,St.upd_nx,h.2.2]
theorem Eqv.put {s s':St} (h:Eqv s s') (d:Option Nat) (v:HV):Eqv (s.put d v) (s'.put d v):=h.upd [] d v
theorem Eqv.weak {s s' s2:St} (h:Eqv s s') (hw:Weak s s2):Weak s' s2:=by
 intro E a w hr
 refine hw E a w ?_
 obtain ⟨h1,h2,h3⟩:=h
 unfold SRel at *
 rw [h1,h2,h3]
 exact hr
theorem G7 {C:CallSpec} (hC:rZ C) {s s':St} {i:Nat} {o:aB} {K K':St->Prop} (he:Eqv s s') (hK:∀t t',Eqv t t'->K t->K' t') (h:hop C s i o K):hop C s' i o K':=by
 rcases h with h|h
 ·refine .inl ?_
  unfold hop0 at *
  have e1:ev s'.sl=ev s.sl:=by rw [iq,iq,he.1]
  have e2:(fun i=>aA i s'.st)=fun i=>aA i s.st:=he.2.1.symm
  rw [e1,e2,<- he.2.2]
  split at h
  ·exact hC.ap _ _ _ _ h fun r hr=>⟨hr.1,hr.2.1,hK _ _ (he.upd _ _ _) hr.2.2⟩
  ·exact hC.ap _ _ _ _ h fun r hr=>⟨hr.1,hr.2.1,hK _ _ (he.upd _ _ _) hr.2.2⟩
  ·exact ⟨h.1,hK _ _ (he.upd _ _ _) h.2⟩
 ·exact .inr (hC.eqv _ _ _ _ _ _ he.1 he.2.1 he.2.2 (hC.sem _ _ _ _ _ _ h fun t ht=>hK _ _ (Eqv.refl t) ht))
theorem JZ {C:CallSpec} (hC:rZ C) {all:List aB} {K:St->Prop} (hK:∀s s',Eqv s s'->K s->K s'):∀ {r:List aB} {i:Nat} {s s':St},Eqv s s'->hops C all r i K s->hops C all r i K s':=by
 intro r
 induction r with
 | nil=>intro i s s' he h;exact hK _ _ he h
 | cons o r ih =>
  intro i s s' he h
  have ed:(fun d=>aA d s'.sl)=fun d=>aA d s.sl:=he.1.symm
  simp only [hops] at h ⊢
  rw [ed]
  split at h
  ·exact G7 hC he (fun t t' ht hh=>ih ht hh) h
  ·split at h
   ·exact ⟨fun hb=>G7 hC he (fun t t' ht hh=>ih ht hh) (h.1 hb),fun hb=>ih (he.put o.dst (.tup [])) (h.2 hb)⟩
   ·exact ih (he.put o.dst (.tup [])) h
   ·exact h
def qQ:List HI->Bool
 | []=>true
 | .o ..::_=>false
 | .c _::k=>qQ k
 | .b _::k=>qQ k
 | .l ..::k=>qQ k
theorem Ei {rs:List Nat} {K:HV->Prop} {e:HE} {s s':St} (he:Eqv s s') (h:finish rs K e s):finish rs K e s':=by
 have e1:∀r,aA r s'.sl=aA r s.sl:=fun r=>congrFun he.1.symm r
 have e2:(rs.map fun r=>aA r s'.sl)=rs.map fun r=>aA r s.sl:=by simp only [e1]
 unfold finish at *
 cases e with
 | normal=>simp only at h ⊢;rw [e2,<- he.2.1];exact h
 | ret=>simp only at h ⊢;rw [e2,<- he.2.1];exact h
 | exit i=>exact h
theorem Aa {P:Program} {rs:List Nat} {K:HV->Prop} {k:List HI} (hp:qQ k=true):∀ {e:HE} {s s':St},Eqv s s'->hk P k (finish rs K) e s->hk P k (finish rs K) e s':=by
 induction k with
 | nil=>intro e s s' he h;exact Ei he h
 | cons a k ih =>
  intro e s s' he h
  cases a with
  | c x =>
   cases e with
   | normal=>obtain ⟨s1,hw,h1⟩:=h;exact ⟨s1,he.weak hw,h1⟩
   | exit i=>exact ih hp he h
   | ret=>exact ih hp he h
  | b id =>
   cases e with
   | normal=>exact ih hp he h
   | exit i =>
    simp only [hk] at h ⊢
    split
    ·rename_i hi;rw [if_pos hi] at h;exact ih hp he h
    ·rename_i hi;rw [if_neg hi] at h;exact ih hp he h
   | ret=>exact ih hp he h
  | o=>cases hp
  | l I μ m =>
   cases e with
   | normal=>obtain ⟨s1,hw,h1⟩:=h;exact ⟨s1,he.weak hw,h1⟩
   | exit i=>exact ih hp he h
   | ret=>exact ih hp he h
section
variable {P:Program} {C:CallSpec} {all r:List aB} {i:Nat} {k:List HI} {rs:List Nat} {K:HV->Prop}
theorem ja (hC:rZ C) (hp:qQ k=true) {s s':St} (he:Eqv s s') (h:hx P (.o C all r i::k) (finish rs K) s):hx P (.o C all r i::k) (finish rs K) s':=by
 unfold hx hk at *
 exact JZ hC (fun a b hab hh=>Aa hp (s:={ a with nx:=a.nx+stride*all.length }) (s':={ b with nx:=b.nx+stride*all.length }) ⟨hab.1,hab.2.1,congrArg (fun n=>n+stride*all.length) hab.2.2⟩ hh) he h
def kR (sl st:List (Nat×HV)):List Upd->List (Nat×HV)×List (Nat×HV)
 | []=>(sl,st)
 | .put id t::r=>kR sl ((id,t)::st) r
 | .kill id len::r=>kR (sl.map fun p=>(p.1,p.2.kill id len)) st r
def o8 (d:Option Nat) (v:HV) (x:List (Nat×HV)×List (Nat×HV)):List (Nat×HV)×List (Nat×HV) :=
 match d with
 | none=>x
 | some d=>((d,v)::x.1,x.2)
theorem uX (t d:Nat) (v:HV) (l:List (Nat×HV)):aA t ((d,v)::l)=aA t (yB d v l):=by rw [gW];rfl
theorem PT (us:List Upd):∀ (sl st:List (Nat×HV)) (nx:Nat) (s:St),Eqv s ⟨sl,st,nx⟩->Eqv (s.upd us) ⟨(kR sl st us).1,(kR sl st us).2,nx⟩:=by
 induction us with
 | nil=>intro sl st nx s h;exact h
 | cons u us ih =>
  intro sl st nx s h
  cases u with
  | put id t =>
   refine ih sl ((id,t)::st) nx _ ⟨h.1,?_,h.2.2⟩
   funext j
   have:aA j s.st=aA j st:=congrFun h.2.1 j
   show aA j (yB id t s.st)=_
   rw [gW]
   show _=aA j ((id,t)::st)
   simp only [aA,this]
  | kill id len =>
   refine ih _ st nx _ ⟨?_,h.2.1,h.2.2⟩
   funext j
   have:aA j s.sl=aA j sl:=congrFun h.1 j
   show aA j (s.sl.map _)=aA j (sl.map _)
   rw [kZ,kZ,this]
theorem jO {d:Option Nat} {v:HV} {us:List Upd} {sl st sl' st':List (Nat×HV)} {nx:Nat} (h:o8 d v (kR sl st us)=(sl',st')):Eqv ⟨sl',st',nx⟩ ((St.upd ⟨sl,st,nx⟩ us).put d v):=by
 have h1:=PT us sl st nx ⟨sl,st,nx⟩ (Eqv.refl _)
 cases d with
 | none =>
  simp only [o8] at h
  rw [h] at h1
  exact h1.symm
 | some d =>
  simp only [o8,Prod.mk.injEq] at h
  obtain ⟨rfl,rfl⟩:=h
  refine Eqv.symm ⟨?_,?_,?_⟩
  ·rw [St.put_S]
   funext t
   have:=congrFun h1.1 t
   show (if some d=some t then v else _)=aA t ((d,v)::_)
   simp only [Option.some.injEq,aA]
   split
   ·rfl
   ·exact this
  ·rw [St.put_M];exact h1.2.1
  ·rw [St.put_nx];exact h1.2.2
variable {sl sl' st st':List (Nat×HV)} {nx:Nat} {d:Option Nat}
theorem gK (hC:rZ C) (hp:qQ k=true) {op:HOp HX} {op':HOp HV} {v:HV} {us:List Upd} {side:Prop} (hnc:op.isCall=false) (ho:op.map (ev sl)=op') (h0:az (fun j=>aA j st) (nx+stride*i) op'=(v,us,side)) (hs:side)
  (hu:o8 d v (kR sl st us)=(sl',st')) (h:hx P (.o C all r (i+1)::k) (finish rs K) ⟨sl',st',nx⟩):hx P (.o C all (⟨d,op,none⟩::r) i::k) (finish rs K) ⟨sl,st,nx⟩:=by
 refine Y5 hnc ?_
 subst ho
 have e:(fun j=>aA j st)=St.M ⟨sl,st,nx⟩:=rfl
 rw [e] at h0
 simp only
 rw [h0]
 exact ⟨hs,ja hC hp (jO hu) h⟩
class U5 (C:CallSpec):Prop where
 mono:rZ C
instance:U5 (HS P):=⟨HT.cmono P⟩
instance {D:FuncId->List HV->HV->Prop}:U5 (CS P D):=⟨CS.cmono P D⟩
class Plain (k:List HI):Prop where
 plain:qQ k=true
instance:Plain []:=⟨rfl⟩
instance {x:HCode} {k:List HI} [h:Plain k]:Plain (.c x::k):=⟨h.plain⟩
instance {id:Nat} {k:List HI} [h:Plain k]:Plain (.b id::k):=⟨h.plain⟩
instance {I:St->Prop} {μ:St->Nat} {m:Nat} {k:List HI} [h:Plain k]:Plain (.l I μ m::k):=⟨h.plain⟩
class Ok (C:CallSpec) (k:List HI):Prop where
 mono:rZ C
 plain:qQ k=true
instance [h:U5 C] [h2:Plain k]:Ok C k:=⟨h.mono,h2.plain⟩
theorem eI {v:HV} {k:IntKind} {n:Int} (h:v=.int k n):v=.int k n:=h
theorem eB {v:HV} {b:Bool} (h:v=.bool b):v=.bool b:=h
theorem eR {v:HV} {id:Nat} {p:List Nat} {sz off n:Nat} (h:v=.ref id p sz off n):v=.ref id p sz off n:=h
theorem eS {v:HV} {n:Nat} {cs:List HV} (h:v=.sl n cs):v=.sl n cs:=h
theorem eP {v:HV} {id:Nat} {p:List Nat} {off:Nat} (h:v=.pref id p off):v=.pref id p off:=h
theorem eQ {v:HV} {cs:List HV} {off:Nat} (h:v=.ptr cs off):v=.ptr cs off:=h
theorem eT {v:HV} {cs:List HV} (h:v=.tup cs):v=.tup cs:=h
theorem eA {v:HV} {cs:List HV} (h:v=.agg cs):v=.agg cs:=h
theorem eN {v:HV} (h:v=.nils):v=.nils:=h
theorem eF {v:HV} {f:FuncId} {cs:List HV} (h:v=.fn f cs):v=.fn f cs:=h
theorem eO {v:HV} {sz n:Nat} {cs:List HV} (h:v=.osl sz n cs):v=.osl sz n cs:=h
theorem eW {v:HV} {cs:List HV} (h:v=.optr cs):v=.optr cs:=h
theorem eL {v:HV} (h:v=.nilp):v=.nilp:=h
theorem eX {v:HV} {s:ByteArray} (h:v=.str s):v=.str s:=h
theorem eD {v:HV} (h:v=.dead):v=.dead:=h
theorem ltT {a b:Int} (h:a<b):decide (a<b)=true:=by simpa using h
theorem ltF {a b:Int} (h:¬ a<b):decide (a<b)=false:=by simpa using h
theorem leT {a b:Int} (h:a<=b):decide (a<=b)=true:=by simpa using h
theorem leF {a b:Int} (h:¬ a<=b):decide (a<=b)=false:=by simpa using h
theorem eqT {a b:Int} (h:a=b):(a==b)=true:=by simpa using h
theorem eqF {a b:Int} (h:¬ a=b):(a==b)=false:=by simpa using h
theorem neT {a b:Int} (h:¬ a=b):(a != b)=true:=by simpa using h
theorem neF {a b:Int} (h:a=b):(a != b)=false:=by simpa using h
theorem eP1 {a b:Nat} {v w:HV} {l m:List (Nat×Nat×HV)} (h:v=w) (h2:l=m):(a,b,v)::l=(a,b,w)::m:=by rw [h,h2]
theorem Vb {v w:HV} {l m:List HV} (h:v=w) (h2:l=m):v::l=w::m:=by rw [h,h2]
variable {x y z:HX} {t:Nat} {u v w:HV} {kk:IntKind} {a b c:Int} {p q e:Bool} {cs cs' ws:List HV} {n m o off id sz:Nat} {path:List Nat}
abbrev G (P:Program) (C:CallSpec) (all r:List aB) (i:Nat) (k:List HI) (rs:List Nat) (K:HV->Prop) (sl st:List (Nat×HV)) (nx:Nat):Prop:=hx P (.o C all r i::k) (finish rs K) ⟨sl,st,nx⟩
def X7 (nz:Nat) (v:HV):Bool :=
 match nz,v with
 | 0,_=>true
 | _+1,.nils=>false
 | _+1,_=>true
theorem V3 [ok:Ok C k] {nz:Nat} (hv:ev sl x=v) (hn:X7 nz v=true) (h:G P C all r (i+1) k rs K ((t,v)::sl) st nx):G P C all (⟨some t,.mv nz x,none⟩::r) i k rs K sl st nx :=
 gK ok.mono ok.plain (v:=v) (us:=[]) (side:=True) rfl (by rw [HOp.map,hv]) (by
  cases nz with
  | zero=>cases v<;>rfl
  | succ nz=>cases v<;>first|rfl|cases hn) trivial rfl h
theorem ah [ok:Ok C k] {nz:Nat} (h:G P C all r (i+1) k rs K ((t,v)::sl) st nx) (hv:ev sl x=v:=by first|exact eI rfl|exact eB rfl|exact eR rfl|exact eS rfl|exact eP rfl|exact eT rfl|exact eA rfl|exact eN rfl|exact eQ rfl|exact eF rfl|exact eD rfl|exact eM rfl|exact eK rfl|exact eV rfl|exact eX rfl|exact eL rfl) (hn:X7 nz v=true:=by exact rfl):G P C all (⟨some t,.mv nz x,none⟩::r) i k rs K sl st nx:=V3 hv hn h
theorem OJ [ok:Ok C k] {nz fr:Nat} (hn:(nz != 0)=true) (hv:ev sl x=.nils) (hf:nx+stride*i=fr) (h:G P C all r (i+1) k rs K ((t,.ref fr [] nz 0 0)::sl) ((fr,.osl nz 0 [])::st) nx):G P C all (⟨some t,.mv nz x,none⟩::r) i k rs K sl st nx:=by
 subst hf
 cases nz with
 | zero=>cases hn
 | succ nz=>exact gK ok.mono ok.plain (us:=[.put (nx+stride*i) (.osl (nz+1) 0 [])]) (side:=True) rfl (by rw [HOp.map,hv]) rfl trivial rfl h
theorem bK [ok:Ok C k] {nz fr:Nat} (h:G P C all r (i+1) k rs K ((t,.ref fr [] nz 0 0)::sl) ((fr,.osl nz 0 [])::st) nx) (hn:(nz != 0)=true:=by exact rfl) (hv:ev sl x=.nils:=by rfl) (hf:nx+stride*i=fr:=by (try simp only [go_sem,reduceIte,Nat.reduceEqDiff,Nat.reduceAdd,Nat.reduceMul]);try rfl):G P C all (⟨some t,.mv nz x,none⟩::r) i k rs K sl st nx:=OJ hn hv hf h
theorem Qv [ok:Ok C k] (hc:ev sl x=.bool true) (hv:ev sl y=v) (h:G P C all r (i+1) k rs K ((t,v)::sl) st nx):G P C all (⟨some t,.pick x y z,none⟩::r) i k rs K sl st nx :=
 gK ok.mono ok.plain (v:=v) (us:=[]) (side:=True) rfl (by rw [HOp.map,hc,hv]) (by cases v<;>(try rfl)<;>(cases ev sl z<;>rfl)) trivial rfl h
theorem aU [ok:Ok C k] (h:G P C all r (i+1) k rs K ((t,v)::sl) st nx) (hc:ev sl x=.bool true:=by rfl) (hv:ev sl y=v:=by first|exact eI rfl|exact eB rfl|exact eR rfl|exact eS rfl|exact eP rfl|exact eT rfl|exact eA rfl|exact eN rfl|exact eQ rfl|exact eF rfl|exact eD rfl|exact eM rfl|exact eK rfl|exact eV rfl|exact eX rfl|exact eL rfl):G P C all (⟨some t,.pick x y z,none⟩::r) i k rs K sl st nx:=Qv hc hv h
theorem Pz [ok:Ok C k] (hc:ev sl x=.bool false) (hv:ev sl z=v) (h:G P C all r (i+1) k rs K ((t,v)::sl) st nx):G P C all (⟨some t,.pick x y z,none⟩::r) i k rs K sl st nx :=
 gK ok.mono ok.plain (v:=v) (us:=[]) (side:=True) rfl (by rw [HOp.map,hc,hv]) (by cases ev sl y<;>(try rfl)<;>(cases v<;>rfl)) trivial rfl h
theorem aS [ok:Ok C k] (h:G P C all r (i+1) k rs K ((t,v)::sl) st nx) (hc:ev sl x=.bool false:=by rfl) (hv:ev sl z=v:=by first|exact eI rfl|exact eB rfl|exact eR rfl|exact eS rfl|exact eP rfl|exact eT rfl|exact eA rfl|exact eN rfl|exact eQ rfl|exact eF rfl|exact eD rfl|exact eM rfl|exact eK rfl|exact eV rfl|exact eX rfl|exact eL rfl):G P C all (⟨some t,.pick x y z,none⟩::r) i k rs K sl st nx:=Pz hc hv h
theorem kF [ok:Ok C k] (hx:ev sl x=.int kk a) (hy:ev sl y=.int kk b) (hc:kk.wrap (a+b)=c) (h:G P C all r (i+1) k rs K ((t,.int kk c)::sl) st nx):G P C all (⟨some t,.bin .add x y,none⟩::r) i k rs K sl st nx :=
 gK ok.mono ok.plain (v:=.int kk c) (us:=[]) (side:=kk=kk) rfl (by rw [HOp.map,hx,hy]) (by subst hc;rfl) rfl rfl h
theorem bM [ok:Ok C k] (h:G P C all r (i+1) k rs K ((t,.int kk c)::sl) st nx) (hx:ev sl x=.int kk a:=by rfl) (hy:ev sl y=.int kk b:=by rfl) (hc:kk.wrap (a+b)=c:=by (try simp (disch:=omega) only [go_sem,Int.reduceAdd,Int.reduceSub,Int.reduceMul]);try rfl):G P C all (⟨some t,.bin .add x y,none⟩::r) i k rs K sl st nx:=kF hx hy hc h
theorem zo [ok:Ok C k] (hx:ev sl x=.int kk a) (hy:ev sl y=.int kk b) (hc:kk.wrap (a - b)=c) (h:G P C all r (i+1) k rs K ((t,.int kk c)::sl) st nx):G P C all (⟨some t,.bin .sub x y,none⟩::r) i k rs K sl st nx :=
 gK ok.mono ok.plain (v:=.int kk c) (us:=[]) (side:=kk=kk) rfl (by rw [HOp.map,hx,hy]) (by subst hc;rfl) rfl rfl h
theorem KG [ok:Ok C k] (hx:ev sl x=.int kk a) (hy:ev sl y=.int kk b) (hb:b≠0) (hc:a.tmod b=c) (h:G P C all r (i+1) k rs K ((t,.int kk c)::sl) st nx):G P C all (⟨some t,.bin .rem x y,none⟩::r) i k rs K sl st nx :=
 gK ok.mono ok.plain (v:=.int kk c) (us:=[]) (side:=kk=kk/\b≠0) rfl (by rw [HOp.map,hx,hy]) (by subst hc;rfl) ⟨rfl,hb⟩ rfl h
theorem WO [ok:Ok C k] (hx:ev sl x=.int kk a) (hy:ev sl y=.int kk b) (hc:(a==b)=p) (h:G P C all r (i+1) k rs K ((t,.bool p)::sl) st nx):G P C all (⟨some t,.bin .eql x y,none⟩::r) i k rs K sl st nx :=
 gK ok.mono ok.plain (v:=.bool p) (us:=[]) (side:=kk=kk) rfl (by rw [HOp.map,hx,hy]) (by subst hc;rfl) rfl rfl h
theorem dV [ok:Ok C k] (h:G P C all r (i+1) k rs K ((t,.bool p)::sl) st nx) (hx:ev sl x=.int kk a:=by rfl) (hy:ev sl y=.int kk b:=by rfl) (hc:(a==b)=p:=by first|exact eqT (by omega)|exact eqF (by omega)|rfl):G P C all (⟨some t,.bin .eql x y,none⟩::r) i k rs K sl st nx:=WO hx hy hc h
theorem lh [ok:Ok C k] (hx:ev sl x=.int kk a) (hy:ev sl y=.int kk b) (hc:(a != b)=p) (h:G P C all r (i+1) k rs K ((t,.bool p)::sl) st nx):G P C all (⟨some t,.bin .neq x y,none⟩::r) i k rs K sl st nx :=
 gK ok.mono ok.plain (v:=.bool p) (us:=[]) (side:=kk=kk) rfl (by rw [HOp.map,hx,hy]) (by subst hc;rfl) rfl rfl h
theorem V6 [ok:Ok C k] (hx:ev sl x=.int kk a) (hy:ev sl y=.int kk b) (hc:decide (a<b)=p) (h:G P C all r (i+1) k rs K ((t,.bool p)::sl) st nx):G P C all (⟨some t,.bin .lss x y,none⟩::r) i k rs K sl st nx :=
 gK ok.mono ok.plain (v:=.bool p) (us:=[]) (side:=kk=kk) rfl (by rw [HOp.map,hx,hy]) (by subst hc;rfl) rfl rfl h
theorem aF [ok:Ok C k] (h:G P C all r (i+1) k rs K ((t,.bool p)::sl) st nx) (hx:ev sl x=.int kk a:=by rfl) (hy:ev sl y=.int kk b:=by rfl) (hc:decide (a<b)=p:=by first|exact ltT (by omega)|exact ltF (by omega)|rfl):G P C all (⟨some t,.bin .lss x y,none⟩::r) i k rs K sl st nx:=V6 hx hy hc h
theorem ug [ok:Ok C k] (hx:ev sl x=.int kk a) (hy:ev sl y=.int kk b) (hc:decide (a<=b)=p) (h:G P C all r (i+1) k rs K ((t,.bool p)::sl) st nx):G P C all (⟨some t,.bin .leq x y,none⟩::r) i k rs K sl st nx :=
 gK ok.mono ok.plain (v:=.bool p) (us:=[]) (side:=kk=kk) rfl (by rw [HOp.map,hx,hy]) (by subst hc;rfl) rfl rfl h
theorem WT [ok:Ok C k] (hx:ev sl x=.int kk a) (hy:ev sl y=.int kk b) (hc:decide (b<a)=p) (h:G P C all r (i+1) k rs K ((t,.bool p)::sl) st nx):G P C all (⟨some t,.bin .gtr x y,none⟩::r) i k rs K sl st nx :=
 gK ok.mono ok.plain (v:=.bool p) (us:=[]) (side:=kk=kk) rfl (by rw [HOp.map,hx,hy]) (by subst hc;rfl) rfl rfl h
theorem bP [ok:Ok C k] (h:G P C all r (i+1) k rs K ((t,.bool p)::sl) st nx) (hx:ev sl x=.int kk a:=by rfl) (hy:ev sl y=.int kk b:=by rfl) (hc:decide (b<a)=p:=by first|exact ltT (by omega)|exact ltF (by omega)|rfl):G P C all (⟨some t,.bin .gtr x y,none⟩::r) i k rs K sl st nx:=WT hx hy hc h
theorem pW [ok:Ok C k] (hx:ev sl x=.int kk a) (hy:ev sl y=.int kk b) (hc:decide (b<=a)=p) (h:G P C all r (i+1) k rs K ((t,.bool p)::sl) st nx):G P C all (⟨some t,.bin .geq x y,none⟩::r) i k rs K sl st nx :=
 gK ok.mono ok.plain (v:=.bool p) (us:=[]) (side:=kk=kk) rfl (by rw [HOp.map,hx,hy]) (by subst hc;rfl) rfl rfl h
theorem y8 [ok:Ok C k] {ne:Bool} (hx:ev sl x=.bool p) (hy:ev sl y=.bool q) (hc:(if ne=true then !(p==q) else p==q)=e) (h:G P C all r (i+1) k rs K ((t,.bool e)::sl) st nx):G P C all (⟨some t,.beq ne x y,none⟩::r) i k rs K sl st nx :=
 gK ok.mono ok.plain (v:=.bool e) (us:=[]) (side:=True) rfl (by rw [HOp.map,hx,hy]) (by subst hc;rfl) trivial rfl h
theorem Ld [ok:Ok C k] (hx:ev sl x=.bool p) (hc:(!p)=e) (h:G P C all r (i+1) k rs K ((t,.bool e)::sl) st nx):G P C all (⟨some t,.un .not x,none⟩::r) i k rs K sl st nx :=
 gK ok.mono ok.plain (v:=.bool e) (us:=[]) (side:=True) rfl (by rw [HOp.map,hx]) (by subst hc;rfl) trivial rfl h
theorem iU [ok:Ok C k] (hx:ev sl x=.bool true) (h:G P C all r (i+1) k rs K ((t,.bool false)::sl) st nx):G P C all (⟨some t,.un .not x,none⟩::r) i k rs K sl st nx:=Ld hx rfl h
theorem jC [ok:Ok C k] (hx:ev sl x=.bool false) (h:G P C all r (i+1) k rs K ((t,.bool true)::sl) st nx):G P C all (⟨some t,.un .not x,none⟩::r) i k rs K sl st nx:=Ld hx rfl h
theorem Xk [ok:Ok C k] (hx:ev sl x=.int kk a) (hc:kk.wrap (0 - a)=c) (h:G P C all r (i+1) k rs K ((t,.int kk c)::sl) st nx):G P C all (⟨some t,.un .neg x,none⟩::r) i k rs K sl st nx :=
 gK ok.mono ok.plain (v:=.int kk c) (us:=[]) (side:=True) rfl (by rw [HOp.map,hx]) (by subst hc;rfl) trivial rfl h
theorem Yw [ok:Ok C k] {mx:Bool} (hx:ev sl x=.int kk a) (hy:ev sl y=.int kk b) (hc:(if mx=true then (if a<b then b else a) else (if b<a then b else a))=c) (h:G P C all r (i+1) k rs K ((t,.int kk c)::sl) st nx):G P C all (⟨some t,.mm mx x y,none⟩::r) i k rs K sl st nx :=
 gK ok.mono ok.plain (v:=.int kk c) (us:=[]) (side:=kk=kk) rfl (by rw [HOp.map,hx,hy]) (by subst hc;rfl) rfl rfl h
theorem JD [ok:Ok C k] (hx:ev sl x=.nils) (h:G P C all r (i+1) k rs K ((t,.int .i64 0)::sl) st nx):G P C all (⟨some t,.len x,none⟩::r) i k rs K sl st nx :=
 gK ok.mono ok.plain (v:=.int .i64 0) (us:=[]) (side:=True) rfl (by rw [HOp.map,hx]) rfl trivial rfl h
theorem dm [ok:Ok C k] (hx:ev sl x=.sl n cs) (h:G P C all r (i+1) k rs K ((t,.int .i64 n)::sl) st nx):G P C all (⟨some t,.len x,none⟩::r) i k rs K sl st nx :=
 gK ok.mono ok.plain (v:=.int .i64 n) (us:=[]) (side:=True) rfl (by rw [HOp.map,hx]) rfl trivial rfl h
theorem fG [ok:Ok C k] (hx:ev sl x=.ref id path sz off n) (h:G P C all r (i+1) k rs K ((t,.int .i64 n)::sl) st nx):G P C all (⟨some t,.len x,none⟩::r) i k rs K sl st nx :=
 gK ok.mono ok.plain (v:=.int .i64 n) (us:=[]) (side:=True) rfl (by rw [HOp.map,hx]) rfl trivial rfl h
theorem Y9 [ok:Ok C k] (hx:ev sl x=.sl n cs) (hy:ev sl y=.int kk a) (h0:0<=a/\a<n) (ho:a.toNat*sz=o) (h:G P C all r (i+1) k rs K ((t,.ptr cs o)::sl) st nx):G P C all (⟨some t,.iaddr sz x y,none⟩::r) i k rs K sl st nx :=
 gK ok.mono ok.plain (v:=.ptr cs o) (us:=[]) (side:=0<=a/\a<n) rfl (by rw [HOp.map,hx,hy]) (by subst ho;rfl) h0 rfl h
theorem bu [ok:Ok C k] (h:G P C all r (i+1) k rs K ((t,.ptr cs o)::sl) st nx) (hx:ev sl x=.sl n cs:=by rfl) (hy:ev sl y=.int kk a:=by rfl) (h0:0<=a/\a<n:=by omega) (ho:a.toNat*sz=o:=by (try simp only [go_sem,reduceIte,Nat.reduceEqDiff,Nat.reduceAdd,Nat.reduceMul]);try rfl):G P C all (⟨some t,.iaddr sz x y,none⟩::r) i k rs K sl st nx:=Y9 hx hy h0 ho h
theorem WU [ok:Ok C k] (hx:ev sl x=.ref id path sz off n) (hy:ev sl y=.int kk a) (h0:0<=a/\a<n) (ho:off+a.toNat*sz=o) (h:G P C all r (i+1) k rs K ((t,.pref id path o)::sl) st nx):G P C all (⟨some t,.iaddr sz x y,none⟩::r) i k rs K sl st nx :=
 gK ok.mono ok.plain (v:=.pref id path o) (us:=[]) (side:=0<=a/\a<n/\sz=sz) rfl (by rw [HOp.map,hx,hy]) (by subst ho;rfl) ⟨h0.1,h0.2,rfl⟩ rfl h
theorem gQ [ok:Ok C k] (h:G P C all r (i+1) k rs K ((t,.pref id path o)::sl) st nx) (hx:ev sl x=.ref id path sz off n:=by rfl) (hy:ev sl y=.int kk a:=by rfl) (h0:0<=a/\a<n:=by omega) (ho:off+a.toNat*sz=o:=by (try simp only [go_sem,reduceIte,Nat.reduceEqDiff,Nat.reduceAdd,Nat.reduceMul]);try rfl):G P C all (⟨some t,.iaddr sz x y,none⟩::r) i k rs K sl st nx:=WU hx hy h0 ho h
theorem XW [ok:Ok C k] {dd:Nat} (hx:ev sl x=.ptr cs off) (ho:off+dd=o) (h:G P C all r (i+1) k rs K ((t,.ptr cs o)::sl) st nx):G P C all (⟨some t,.faddr dd x,none⟩::r) i k rs K sl st nx :=
 gK ok.mono ok.plain (v:=.ptr cs o) (us:=[]) (side:=True) rfl (by rw [HOp.map,hx]) (by subst ho;rfl) trivial rfl h
theorem dh [ok:Ok C k] {dd:Nat} (h:G P C all r (i+1) k rs K ((t,.ptr cs o)::sl) st nx) (hx:ev sl x=.ptr cs off:=by rfl) (ho:off+dd=o:=by rfl):G P C all (⟨some t,.faddr dd x,none⟩::r) i k rs K sl st nx:=XW hx ho h
theorem Yj [ok:Ok C k] {dd:Nat} (hx:ev sl x=.pref id path off) (ho:off+dd=o) (h:G P C all r (i+1) k rs K ((t,.pref id path o)::sl) st nx):G P C all (⟨some t,.faddr dd x,none⟩::r) i k rs K sl st nx :=
 gK ok.mono ok.plain (v:=.pref id path o) (us:=[]) (side:=True) rfl (by rw [HOp.map,hx]) (by subst ho;rfl) trivial rfl h
theorem aH [ok:Ok C k] {dd:Nat} (h:G P C all r (i+1) k rs K ((t,.pref id path o)::sl) st nx) (hx:ev sl x=.pref id path off:=by rfl) (ho:off+dd=o:=by rfl):G P C all (⟨some t,.faddr dd x,none⟩::r) i k rs K sl st nx:=Yj hx ho h
theorem jf [ok:Ok C k] (hx:ev sl x=.ptr cs off) (hl:off<cs.length) (hv:cs.getD off .dead=v) (h:G P C all r (i+1) k rs K ((t,v)::sl) st nx):G P C all (⟨some t,.load false sz x,none⟩::r) i k rs K sl st nx :=
 gK ok.mono ok.plain (v:=v) (us:=[]) (side:=off<cs.length) rfl (by rw [HOp.map,hx]) (by subst hv;rfl) hl rfl h
theorem dP [ok:Ok C k] (h:G P C all r (i+1) k rs K ((t,v)::sl) st nx) (hx:ev sl x=.ptr cs off:=by rfl) (hl:off<cs.length:=by (try simp only [go_sem]);first|omega|decide) (hv:cs.getD off .dead=v:=by (try simp (disch:=omega) only [go_sem]);try rfl):G P C all (⟨some t,.load false sz x,none⟩::r) i k rs K sl st nx:=jf hx hl hv h
theorem vJ [ok:Ok C k] (hx:ev sl x=.ptr cs off) (hl:off+sz<=cs.length) (hv:win cs off sz=ws) (h:G P C all r (i+1) k rs K ((t,.agg ws)::sl) st nx):G P C all (⟨some t,.load true sz x,none⟩::r) i k rs K sl st nx :=
 gK ok.mono ok.plain (v:=.agg ws) (us:=[]) (side:=off+sz<=cs.length) rfl (by rw [HOp.map,hx]) (by subst hv;rfl) hl rfl h
theorem bG [ok:Ok C k] (h:G P C all r (i+1) k rs K ((t,.agg ws)::sl) st nx) (hx:ev sl x=.ptr cs off:=by rfl) (hl:off+sz<=cs.length:=by (try simp only [go_sem]);first|omega|decide) (hv:win cs off sz=ws:=by (try simp (disch:=omega) only [go_sem,reduceIte,Nat.reduceEqDiff,Nat.reduceAdd,Nat.reduceMul]);try rfl):G P C all (⟨some t,.load true sz x,none⟩::r) i k rs K sl st nx:=vJ hx hl hv h
theorem iG [ok:Ok C k] (hx:ev sl x=.pref id path off) (ht:aA id st=u) (hk:bz (aG u path)=cs) (hl:off<cs.length) (hv:cs.getD off .dead=w) (hw:look id path off w=v) (h:G P C all r (i+1) k rs K ((t,v)::sl) st nx):G P C all (⟨some t,.load false sz x,none⟩::r) i k rs K sl st nx :=
 gK ok.mono ok.plain (v:=v) (us:=[]) (side:=off<cs.length) rfl (by rw [HOp.map,hx]) (by
  subst hv hw hk ht
  rfl) hl rfl h
theorem aW [ok:Ok C k] (h:G P C all r (i+1) k rs K ((t,v)::sl) st nx) (hx:ev sl x=.pref id path off:=by rfl) (ht:aA id st=u:=by first|exact eO rfl|exact eW rfl) (hk:bz (aG u path)=cs:=by (try simp only [go_sem]);try rfl) (hl:off<cs.length:=by (try simp only [go_sem]);first|omega|decide) (hv:cs.getD off .dead=w:=by (try simp (disch:=omega) only [go_sem]);try rfl) (hw:look id path off w=v:=by first|exact eI rfl|exact eB rfl|exact eR rfl|exact eS rfl|exact eP rfl|exact eT rfl|exact eA rfl|exact eN rfl|exact eQ rfl|exact eF rfl|exact eD rfl|exact eM rfl|exact eK rfl|exact eV rfl|exact eX rfl|exact eL rfl):G P C all (⟨some t,.load false sz x,none⟩::r) i k rs K sl st nx:=iG hx ht hk hl hv hw h
theorem iZ [ok:Ok C k] (hx:ev sl x=.pref id path off) (ht:aA id st=u) (hk:bz (aG u path)=cs) (hl:off+sz<=cs.length) (h0:0<sz) (hv:win cs off sz=ws) (hf:bW ws=true) (h:G P C all r (i+1) k rs K ((t,.agg ws)::sl) st nx):G P C all (⟨some t,.load true sz x,none⟩::r) i k rs K sl st nx :=
 gK ok.mono ok.plain (v:=.agg ws) (us:=[]) (side:=off+sz<=cs.length/\0<sz/\bW ws=true) rfl (by rw [HOp.map,hx]) (by
  subst hv hk ht
  simp only [az,if_true]) ⟨hl,h0,hf⟩ rfl h
theorem gq [ok:Ok C k] (h:G P C all r (i+1) k rs K ((t,.agg ws)::sl) st nx) (hx:ev sl x=.pref id path off:=by rfl) (ht:aA id st=u:=by first|exact eO rfl|exact eW rfl) (hk:bz (aG u path)=cs:=by (try simp only [go_sem]);try rfl) (hl:off+sz<=cs.length:=by (try simp only [go_sem]);first|omega|decide) (h0:0<sz:=by decide) (hv:win cs off sz=ws:=by (try simp (disch:=omega) only [go_sem,reduceIte,Nat.reduceEqDiff,Nat.reduceAdd,Nat.reduceMul]);try rfl) (hf:bW ws=true:=by first|rfl|exact HL.ints_flat _|exact HL.bools_flat _):G P C all (⟨some t,.load true sz x,none⟩::r) i k rs K sl st nx:=iZ hx ht hk hl h0 hv hf h
theorem tH (L:Lk):∀ {l:List HV},bW l=true->fU L l=(l,[],(fU L l).2.2)/\(fU L l).2.2:=by
 intro l
 induction l generalizing L with
 | nil=>intro _;exact ⟨rfl,trivial⟩
 | cons v r ih =>
  intro h
  simp only [bW,List.all_cons,Bool.and_eq_true] at h
  have h1:takeC L v=(v,[],True):=by cases v<;>first|rfl|(exact absurd h.1 (by simp [gp]))
  obtain ⟨h2,h3⟩:=ih (L:=L) h.2
  simp only [fU,h1,Lk.upd]
  rw [h2]
  exact ⟨rfl,trivial,h3⟩
theorem yP [ok:Ok C k] (hx:ev sl x=.pref id path off) (hy:ev sl y=w) (hw:cellsOf w=ws) (hf:bW ws=true) (hz:ws.length=sz) (h0:0<sz) (ht:aA id st=u) (hk:bz (aG u path)=cs) (hl:off+sz<=cs.length)
  (hs:setFrom cs off ws=cs') (hn:dK (dD cs' (aG u path)) u path=v) (h:G P C all r (i+1) k rs K sl ((id,v)::st) nx):G P C all (⟨none,.store true sz x y,none⟩::r) i k rs K sl st nx:=by
 obtain ⟨e1,e2⟩:=tH (fun j=>aA j st) hf
 refine gK ok.mono ok.plain (v:=.dead) (us:=[.put id v]) (side:=(fU (fun j=>aA j st) ws).2.2/\ws.length=sz/\0<sz/\off+sz<=cs.length/\(true=true->bW ws=true)) rfl (by rw [HOp.map,hx,hy]) ?_ ⟨e2,hz,h0,hl,fun _=>hf⟩ rfl h
 subst hn hs hk ht hw
 simp only [az]
 rw [e1]
 simp only [if_true,List.nil_append,Lk.upd]
theorem dG [ok:Ok C k] (h:G P C all r (i+1) k rs K sl ((id,v)::st) nx) (hx:ev sl x=.pref id path off:=by rfl) (hy:ev sl y=w:=by first|exact eI rfl|exact eB rfl|exact eR rfl|exact eS rfl|exact eP rfl|exact eT rfl|exact eA rfl|exact eN rfl|exact eQ rfl|exact eF rfl|exact eD rfl|exact eM rfl|exact eK rfl|exact eV rfl|exact eX rfl|exact eL rfl) (hw:cellsOf w=ws:=by (try simp only [go_sem]);try rfl) (hf:bW ws=true:=by first|rfl|exact HL.ints_flat _|exact HL.bools_flat _) (hz:ws.length=sz:=by rfl) (h0:0<sz:=by decide) (ht:aA id st=u:=by first|exact eO rfl|exact eW rfl) (hk:bz (aG u path)=cs:=by (try simp only [go_sem]);try rfl) (hl:off+sz<=cs.length:=by (try simp only [go_sem]);first|omega|decide) (hs:setFrom cs off ws=cs':=by (try simp (disch:=omega) only [go_sem]);try rfl) (hn:dK (dD cs' (aG u path)) u path=v:=by (try simp only [go_sem]);try rfl):G P C all (⟨none,.store true sz x y,none⟩::r) i k rs K sl st nx:=yP hx hy hw hf hz h0 ht hk hl hs hn h
theorem TU [ok:Ok C k] {ne:Bool} (hx:ev sl x=.nils) (h:G P C all r (i+1) k rs K ((t,.bool (!ne))::sl) st nx):G P C all (⟨some t,.isn ne x,none⟩::r) i k rs K sl st nx :=
 gK ok.mono ok.plain (v:=.bool (!ne)) (us:=[]) (side:=True) rfl (by rw [HOp.map,hx]) rfl trivial rfl h
theorem Na [ok:Ok C k] {ne:Bool} (hx:ev sl x=.sl n cs) (hn:0<n) (h:G P C all r (i+1) k rs K ((t,.bool ne)::sl) st nx):G P C all (⟨some t,.isn ne x,none⟩::r) i k rs K sl st nx :=
 gK ok.mono ok.plain (v:=.bool ne) (us:=[]) (side:=0<n) rfl (by rw [HOp.map,hx]) rfl hn rfl h
theorem jA [ok:Ok C k] (hx:ev sl x=.tup cs) (hl:n<cs.length) (hv:cs.getD n .dead=v) (h:G P C all r (i+1) k rs K ((t,v)::sl) st nx):G P C all (⟨some t,.ext x n,none⟩::r) i k rs K sl st nx :=
 gK ok.mono ok.plain (v:=v) (us:=[]) (side:=n<cs.length) rfl (by rw [HOp.map,hx]) (by subst hv;rfl) hl rfl h
theorem L6 [ok:Ok C k] {lo hi:Option HX} (hx:ev sl x=.ref id path sz off n) (hlo:(lo.map (ev sl)).getD (.int .i64 0)=.int .i64 a) (hhi:(hi.map (ev sl)).getD (.int .i64 n)=.int .i64 b) (hside:0<=a/\a<=b/\b<=n) (hm:(b - a).toNat=m) (ho:off+a.toNat*sz=o)
  (h:G P C all r (i+1) k rs K ((t,.ref id path sz o m)::sl) st nx):G P C all (⟨some t,.slc sz x lo hi,none⟩::r) i k rs K sl st nx :=
 gK ok.mono ok.plain (v:=.ref id path sz o m) (us:=[]) (side:=0<=a/\a<=b/\b<=n/\sz=sz) rfl (by rw [HOp.map,hx]) (by subst hm ho;simp only [az,hlo,hhi]) ⟨hside.1,hside.2.1,hside.2.2,rfl⟩ rfl h
theorem V5 [ok:Ok C k] {xs:List HX} {vs:List HV} {fr:Nat} (hf:nx+stride*i=fr) (hvs:xs.map (ev sl)=vs) (hcs:vs.flatMap cellsOf=cs) (hfl:bW cs=true) (hn:n=vs.length) (hz:(vs.all fun v=>(cellsOf v).length==sz)=true)
  (h:G P C all r (i+1) k rs K ((t,.ref fr [] sz 0 n)::sl) ((fr,.osl sz n cs)::st) nx):G P C all (⟨some t,.bsl sz n xs,none⟩::r) i k rs K sl st nx:=by
 obtain ⟨e1,e2⟩:=tH (fun j=>aA j st) hfl
 subst hf
 refine gK ok.mono ok.plain (us:=[.put (nx+stride*i) (.osl sz n cs)]) (side:=(fU (fun j=>aA j st) cs).2.2/\n=vs.length/\(vs.all fun v=>(cellsOf v).length==sz)=true) rfl (by rw [HOp.map,hvs]) ?_ ⟨e2,hn,hz⟩ rfl h
 subst hcs
 simp only [az]
 rw [e1]
 rfl
theorem cO [ok:Ok C k] {xs:List HX} {vs:List HV} {fr:Nat} (h:G P C all r (i+1) k rs K ((t,.ref fr [] sz 0 n)::sl) ((fr,.osl sz n cs)::st) nx) (hf:nx+stride*i=fr:=by (try simp only [go_sem,reduceIte,Nat.reduceEqDiff,Nat.reduceAdd,Nat.reduceMul]);try rfl) (hvs:xs.map (ev sl)=vs:=by (try simp only [List.map_cons,List.map_nil]);repeat (first|(apply Vb;· exact aJ)|rfl)) (hcs:vs.flatMap cellsOf=cs:=by (try simp only [go_sem]);try rfl) (hfl:bW cs=true:=by first|rfl|exact HL.ints_flat _|exact HL.bools_flat _) (hn:n=vs.length:=by rfl) (hz:(vs.all fun v=>(cellsOf v).length==sz)=true:=by rfl):G P C all (⟨some t,.bsl sz n xs,none⟩::r) i k rs K sl st nx:=V5 hf hvs hcs hfl hn hz h
theorem sS (a b:List Upd):∀ (sl st:List (Nat×HV)),kR sl st (a++b)=kR (kR sl st a).1 (kR sl st a).2 b:=by
 induction a with
 | nil=>intro sl st;rfl
 | cons u a ih=>intro sl st;cases u<;>exact ih _ _
theorem lK [ok:Ok C k] {fl:Bool} {ws0:List HV} {us:List Upd} {sd:Prop} (hx:ev sl x=.pref id path off) (hy:ev sl y=w) (hw:cellsOf w=ws0) (ht:fU (fun j=>aA j st) ws0=(ws,us,sd)) (hs:sd) (hz:ws.length=sz) (h0:0<sz) (hf:fl=false) (hu0:Lk.upd (fun j=>aA j st) us id=u) (hk:bz (aG u path)=cs) (hl:off+sz<=cs.length)
  (hse:setFrom cs off ws=cs') (hn:dK (dD cs' (aG u path)) u path=v) (hu:kR sl st (us++[.kill id path.length]++[.put id v])=(sl',st')) (h:G P C all r (i+1) k rs K sl' st' nx):G P C all (⟨none,.store fl sz x y,none⟩::r) i k rs K sl st nx:=by
 subst hf hn hse hk hu0 hw
 refine gK ok.mono ok.plain (v:=.dead) (us:=us++[.kill id path.length]++[.put id (dK (dD (setFrom (bz (aG (Lk.upd (fun j=>aA j st) us id) path)) off ws) (aG (Lk.upd (fun j=>aA j st) us id) path)) (Lk.upd (fun j=>aA j st) us id) path)]) (side:=sd/\ws.length=sz/\0<sz/\off+sz<=(bz (aG (Lk.upd (fun j=>aA j st) us id) path)).length/\(false=true->bW ws=true)) rfl (by rw [HOp.map,hx,hy]) ?_ ⟨hs,hz,h0,hl,fun h=>by cases h⟩ (by rw [hu];rfl) h
 simp only [az,ht,if_false,Bool.false_eq_true]
theorem dH [ok:Ok C k] {fl:Bool} {ws0:List HV} {us:List Upd} {sd:Prop} (h:G P C all r (i+1) k rs K sl' st' nx) (hx:ev sl x=.pref id path off:=by rfl) (hy:ev sl y=w:=by first|exact eI rfl|exact eB rfl|exact eR rfl|exact eS rfl|exact eP rfl|exact eT rfl|exact eA rfl|exact eN rfl|exact eQ rfl|exact eF rfl|exact eD rfl|exact eM rfl|exact eK rfl|exact eV rfl|exact eX rfl|exact eL rfl) (hw:cellsOf w=ws0:=by (try simp only [go_sem]);try rfl) (ht:fU (fun j=>aA j st) ws0=(ws,us,sd):=by simp only [fU,takeC,aA,Lk.upd,if_true,if_false,reduceIte,Nat.reduceEqDiff,List.append_nil,List.nil_append,List.cons_append];try rfl) (hs:sd:=by first|trivial|(refine ⟨?_,?_⟩<;>trivial)) (hz:ws.length=sz:=by rfl) (h0:0<sz:=by first|exact Nat.zero_lt_one|decide) (hf:fl=false:=by rfl) (hu0:Lk.upd (fun j=>aA j st) us id=u:=by simp only [Lk.upd,aA,if_true,if_false,reduceIte,Nat.reduceEqDiff,reduceCtorEq];try rfl) (hk:bz (aG u path)=cs:=by (try simp only [go_sem]);try rfl) (hl:off+sz<=cs.length:=by (try simp only [go_sem]);first|omega|decide) (hse:setFrom cs off ws=cs':=by (try simp (disch:=omega) only [go_sem]);try rfl) (hn:dK (dD cs' (aG u path)) u path=v:=by (try simp only [go_sem]);try rfl) (hu:kR sl st (us++[.kill id path.length]++[.put id v])=(sl',st'):=by simp only [kR,List.cons_append,List.nil_append,List.append_nil,List.map_cons,List.map_nil,HV.kill,lM,List.length_nil,List.length_cons,Nat.reduceEqDiff,Nat.reduceLT,Nat.reduceAdd,if_true,if_false,reduceIte,and_true,true_and,and_false,false_and,and_self,reduceCtorEq,Nat.lt_irrefl];try rfl):G P C all (⟨none,.store fl sz x y,none⟩::r) i k rs K sl st nx:=lK hx hy hw ht hs hz h0 hf hu0 hk hl hse hn hu h
theorem tN [ok:Ok C k] {xs:List HX} {vs cs0:List HV} {us:List Upd} {sd:Prop} {fr:Nat} (hf:nx+stride*i=fr) (hvs:xs.map (ev sl)=vs) (hcs:vs.flatMap cellsOf=cs0) (ht:fU (fun j=>aA j st) cs0=(cs,us,sd)) (hs:sd) (hn:n=vs.length) (hz:(vs.all fun v=>(cellsOf v).length==sz)=true) (hu:kR sl st us=(sl',st'))
  (h:G P C all r (i+1) k rs K ((t,.ref fr [] sz 0 n)::sl') ((fr,.osl sz n cs)::st') nx):G P C all (⟨some t,.bsl sz n xs,none⟩::r) i k rs K sl st nx:=by
 subst hf
 refine gK ok.mono ok.plain (v:=.ref (nx+stride*i) [] sz 0 n) (us:=us++[.put (nx+stride*i) (.osl sz n cs)]) (side:=sd/\n=vs.length/\(vs.all fun v=>(cellsOf v).length==sz)=true) rfl (by rw [HOp.map,hvs]) ?_ ⟨hs,hn,hz⟩ (by rw [sS,hu];rfl) h
 subst hcs
 simp only [az]
 rw [ht]
theorem gZ [ok:Ok C k] {fr bytes sz2 n2 q:Nat} {fl:Bool} {sd:Prop} {us:List Upd} {u':HV} (hf:nx+stride*i=fr) (hx:ev sl x=.ref id path sz off n) (hy:ev sl y=w) (hn:dW (fun j=>aA j st) fl sz w=(m,ws,us,sd)) (hs:sd) (ht:Lk.upd (fun j=>aA j st) us id=u) (hg:aG u path=.osl sz2 n2 cs) (hq:n+m=q)
  (hb:q*bytes<=140737488355328) (hm:q<=maxLen) (hl:off+n*sz<=cs.length) (hc:win cs off (n*sz)++ws=cs') (hd:dK .dead u path=u') (hu:kR sl st us=(sl',st'))
  (h:G P C all r (i+1) k rs K ((t,.ref fr [] sz 0 q)::sl') ((fr,.osl sz q cs')::(id,u')::st') nx):G P C all (⟨some t,.app fl sz bytes x y,none⟩::r) i k rs K sl st nx:=by
 subst hf hd hc ht hq
 refine gK ok.mono ok.plain (v:=.ref (nx+stride*i) [] sz 0 (n+m)) (us:=us++[.put id (dK .dead (Lk.upd (fun j=>aA j st) us id) path),.put (nx+stride*i) (.osl sz (n+m) (win cs off (n*sz)++ws))]) (side:=sd/\(n+m)*bytes<=140737488355328/\n+m<=maxLen/\sz=sz/\off+n*sz<=cs.length) rfl (by rw [HOp.map,hx,hy]) ?_ ⟨hs,hb,hm,rfl,hl⟩ (by rw [sS,hu];rfl) h
 simp only [az,hn,hg]
theorem NR [ok:Ok C k] {fr:Nat} (hf:nx+stride*i=fr) (hv:ev sl x=v) (hcs:cellsOf v=cs) (hfl:bW cs=true) (hz:cs.length=sz) (h:G P C all r (i+1) k rs K ((t,.pref fr [] 0)::sl) ((fr,.optr cs)::st) nx):G P C all (⟨some t,.newv sz x,none⟩::r) i k rs K sl st nx:=by
 obtain ⟨e1,e2⟩:=tH (fun j=>aA j st) hfl
 subst hf
 refine gK ok.mono ok.plain (us:=[.put (nx+stride*i) (.optr cs)]) (side:=(fU (fun j=>aA j st) cs).2.2/\cs.length=sz) rfl (by rw [HOp.map,hv]) ?_ ⟨e2,hz⟩ rfl h
 subst hcs
 simp only [az]
 rw [e1]
 rfl
theorem dX [ok:Ok C k] {fr:Nat} (h:G P C all r (i+1) k rs K ((t,.pref fr [] 0)::sl) ((fr,.optr cs)::st) nx) (hf:nx+stride*i=fr:=by (try simp only [go_sem,reduceIte,Nat.reduceEqDiff,Nat.reduceAdd,Nat.reduceMul]);try rfl) (hv:ev sl x=v:=by first|exact eI rfl|exact eB rfl|exact eR rfl|exact eS rfl|exact eP rfl|exact eT rfl|exact eA rfl|exact eN rfl|exact eQ rfl|exact eF rfl|exact eD rfl|exact eM rfl|exact eK rfl|exact eV rfl|exact eX rfl|exact eL rfl) (hcs:cellsOf v=cs:=by (try simp only [go_sem]);try rfl) (hfl:bW cs=true:=by first|rfl|exact HL.ints_flat _|exact HL.bools_flat _) (hz:cs.length=sz:=by rfl):G P C all (⟨some t,.newv sz x,none⟩::r) i k rs K sl st nx:=NR hf hv hcs hfl hz h
theorem bI [ok:Ok C k] {fr:Nat} (hf:nx+stride*i=fr) (h:G P C all r (i+1) k rs K ((t,.pref fr [] 0)::sl) ((fr,.optr cs)::st) nx):G P C all (⟨some t,.newz cs,none⟩::r) i k rs K sl st nx:=by
 subst hf
 exact gK ok.mono ok.plain (us:=[.put (nx+stride*i) (.optr cs)]) (side:=True) rfl rfl rfl trivial rfl h
theorem Vh [ok:Ok C k] {zs:List HV} {ps:List (Nat×Nat×HX)} {qs:List (Nat×Nat×HV)} {side:Prop} (hq:(ps.map fun p=>(p.1,p.2.1,ev sl p.2.2))=qs) (hw:jQ zs qs=(ws,side)) (hs:side) (h:G P C all r (i+1) k rs K ((t,.agg ws)::sl) st nx):G P C all (⟨some t,.bld zs ps,none⟩::r) i k rs K sl st nx :=
 gK ok.mono ok.plain (v:=.agg ws) (us:=[]) (side:=side) rfl rfl (by simp only [az,HOp.map];rw [hq,hw]) hs rfl h
theorem bY [ok:Ok C k] {zs:List HV} {ps:List (Nat×Nat×HX)} {qs:List (Nat×Nat×HV)} {side:Prop} (h:G P C all r (i+1) k rs K ((t,.agg ws)::sl) st nx) (hq:(ps.map fun p=>(p.1,p.2.1,ev sl p.2.2))=qs:=by (try simp only [List.map_cons,List.map_nil]);repeat (first|(apply eP1;· exact aJ)|rfl)) (hw:jQ zs qs=(ws,side):=by simp only [jQ,setFrom,cellsOf,List.set_cons_zero,List.set_cons_succ];try rfl) (hs:side:=by simp [rO]):G P C all (⟨some t,.bld zs ps,none⟩::r) i k rs K sl st nx:=Vh hq hw hs h
theorem mP [ok:Ok C k] {fr bytes:Nat} {zs:List HV} (hf:nx+stride*i=fr) (hx:ev sl x=.int .i64 a) (hs:0<=a/\bytes*a<=281474976710656/\a<=9223372036854775807) (hm:a.toNat=m) (hcs:(List.replicate m zs).flatten=cs)
  (h:G P C all r (i+1) k rs K ((t,.ref fr [] sz 0 m)::sl) ((fr,.osl sz m cs)::st) nx):G P C all (⟨some t,.mksl sz bytes zs x,none⟩::r) i k rs K sl st nx:=by
 subst hf hcs hm
 exact gK ok.mono ok.plain (us:=[.put (nx+stride*i) (.osl sz a.toNat (List.replicate a.toNat zs).flatten)]) (side:=0<=a/\bytes*a<=281474976710656/\a<=9223372036854775807) rfl (by rw [HOp.map,hx]) rfl hs rfl h
theorem Ur [ok:Ok C k] {fr bytes:Nat} {fl:Bool} {sd:Prop} (hf:nx+stride*i=fr) (hx:ev sl x=.nils) (hy:ev sl y=w) (hn:dW (fun j=>aA j st) fl sz w=(m,ws,[],sd)) (hs:sd) (hb:m*bytes<=140737488355328) (hm:m<=maxLen)
  (h:G P C all r (i+1) k rs K ((t,.ref fr [] sz 0 m)::sl) ((fr,.osl sz m ws)::st) nx):G P C all (⟨some t,.app fl sz bytes x y,none⟩::r) i k rs K sl st nx:=by
 subst hf
 refine gK ok.mono ok.plain (us:=[.put (nx+stride*i) (.osl sz m ws)]) (side:=sd/\m*bytes<=140737488355328/\m<=maxLen) rfl (by rw [HOp.map,hx,hy]) ?_ ⟨hs,hb,hm⟩ rfl h
 simp only [az,hn]
 rfl
theorem lI [ok:Ok C k] {fr bytes sz2 n2 q:Nat} {fl:Bool} {sd:Prop} {u':HV} (hf:nx+stride*i=fr) (hx:ev sl x=.ref id path sz off n) (hy:ev sl y=w) (hn:dW (fun j=>aA j st) fl sz w=(m,ws,[],sd)) (hs:sd) (ht:aA id st=u) (hg:aG u path=.osl sz2 n2 cs) (hq:n+m=q)
  (hb:q*bytes<=140737488355328) (hm:q<=maxLen) (hl:off+n*sz<=cs.length) (hc:win cs off (n*sz)++ws=cs') (hd:dK .dead u path=u')
  (h:G P C all r (i+1) k rs K ((t,.ref fr [] sz 0 q)::sl) ((fr,.osl sz q cs')::(id,u')::st) nx):G P C all (⟨some t,.app fl sz bytes x y,none⟩::r) i k rs K sl st nx:=by
 subst hf hd hc ht hq
 refine gK ok.mono ok.plain (us:=[.put id (dK .dead (aA id st) path),.put (nx+stride*i) (.osl sz (n+m) (win cs off (n*sz)++ws))]) (side:=sd/\(n+m)*bytes<=140737488355328/\n+m<=maxLen/\sz=sz/\off+n*sz<=cs.length) rfl (by rw [HOp.map,hx,hy]) ?_ ⟨hs,hb,hm,rfl,hl⟩ rfl h
 simp only [az,hn,Lk.upd,hg,List.nil_append]
theorem jv [ok:Ok C k] {fr bytes sz2 n2 q:Nat} {fl:Bool} {sd:Prop} {u':HV} (h:G P C all r (i+1) k rs K ((t,.ref fr [] sz 0 q)::sl) ((fr,.osl sz q cs')::(id,u')::st) nx) (hf:nx+stride*i=fr:=by (try simp only [go_sem,reduceIte,Nat.reduceEqDiff,Nat.reduceAdd,Nat.reduceMul]);try rfl) (hx:ev sl x=.ref id path sz off n:=by rfl) (hy:ev sl y=w:=by first|exact eI rfl|exact eB rfl|exact eR rfl|exact eS rfl|exact eP rfl|exact eT rfl|exact eA rfl|exact eN rfl|exact eQ rfl|exact eF rfl|exact eD rfl|exact eM rfl|exact eK rfl|exact eV rfl|exact eX rfl|exact eL rfl) (hn:dW (fun j=>aA j st) fl sz w=(m,ws,[],sd):=by (try simp (disch:=omega) only [aA,go_sem,reduceIte,Nat.reduceEqDiff,Nat.reduceAdd,Nat.reduceMul]);try rfl) (hs:sd:=by (try simp (disch:=omega) only [go_sem,reduceIte,Nat.reduceEqDiff,Nat.reduceAdd,Nat.reduceMul]);try omega) (ht:aA id st=u:=by first|exact eO rfl|exact eW rfl) (hg:aG u path=.osl sz2 n2 cs:=by (try simp only [go_sem]);try rfl) (hq:n+m=q:=by (try simp only [go_sem,reduceIte,Nat.reduceEqDiff,Nat.reduceAdd,Nat.reduceMul]);try rfl) (hb:q*bytes<=140737488355328:=by omega) (hm:q<=maxLen:=by unfold maxLen;omega) (hl:off+n*sz<=cs.length:=by (try simp only [go_sem]);first|omega|decide) (hc:win cs off (n*sz)++ws=cs':=by (try simp (disch:=omega) only [go_sem,reduceIte,Nat.reduceEqDiff,Nat.reduceAdd,Nat.reduceMul]);try rfl) (hd:dK .dead u path=u':=by (try simp only [go_sem]);try rfl):G P C all (⟨some t,.app fl sz bytes x y,none⟩::r) i k rs K sl st nx:=lI hf hx hy hn hs ht hg hq hb hm hl hc hd h
theorem Aq [ok:Ok C k] {f:FuncId} {xs:List HX} {vs:List HV} (hvs:xs.map (ev sl)=vs) (h:G P C all r (i+1) k rs K ((t,.fn f vs)::sl) st nx):G P C all (⟨some t,.mkfn f xs,none⟩::r) i k rs K sl st nx :=
 gK ok.mono ok.plain (v:=.fn f vs) (us:=[]) (side:=True) rfl (by rw [HOp.map,hvs]) rfl trivial rfl h
def XE:HV->Bool
 | .ptr ..=>true
 | .pref ..=>true
 | .fn ..=>true
 | _=>false
theorem gX [ok:Ok C k] (hx:ev sl x=v) (hv:XE v=true) (h:G P C all r (i+1) k rs K ((t,v)::sl) st nx):G P C all (⟨some t,.nilck x,none⟩::r) i k rs K sl st nx :=
 gK ok.mono ok.plain (v:=v) (us:=[]) (side:=True) rfl (by rw [HOp.map,hx]) (by cases v<;>first|rfl|cases hv) trivial rfl h
theorem YV {op:HOp HX} {j e:Nat} {want:Bool} (hd:(all[j]?).bind (·.dst)=some e) (hb:aA e sl=.bool want) (h:G P C all (⟨d,op,none⟩::r) i k rs K sl st nx):G P C all (⟨d,op,some (j,want)⟩::r) i k rs K sl st nx:=Zf hd hb h
theorem aT {op:HOp HX} {j e:Nat} {want:Bool} (h:G P C all (⟨d,op,none⟩::r) i k rs K sl st nx) (hd:(all[j]?).bind (·.dst)=some e:=by rfl) (hb:aA e sl=.bool want:=by rfl):G P C all (⟨d,op,some (j,want)⟩::r) i k rs K sl st nx:=YV hd hb h
theorem aav [ok:Ok C k] {op:HOp HX} {j e:Nat} {want:Bool} (hd:(all[j]?).bind (·.dst)=some e) (hb:aA e sl=.bool (!want)) (h:G P C all r (i+1) k rs K ((t,.tup [])::sl) st nx):G P C all (⟨some t,op,some (j,want)⟩::r) i k rs K sl st nx:=by
 refine V9 hd hb ?_
 exact ja ok.mono ok.plain (s:=⟨(t,.tup [])::sl,st,nx⟩) (jO (us:=[]) (d:=some t) (v:=(.tup [])) rfl) h
theorem dI [ok:Ok C k] {op:HOp HX} {j e:Nat} {want:Bool} (h:G P C all r (i+1) k rs K ((t,.tup [])::sl) st nx) (hd:(all[j]?).bind (·.dst)=some e:=by rfl) (hb:aA e sl=.bool (!want):=by rfl):G P C all (⟨some t,op,some (j,want)⟩::r) i k rs K sl st nx:=aav hd hb h
theorem zC [ok:Ok C k] {op:HOp HX} {j e:Nat} {want:Bool} (hd:(all[j]?).bind (·.dst)=some e) (hb:aA e sl=.tup []) (h:G P C all r (i+1) k rs K ((t,.tup [])::sl) st nx):G P C all (⟨some t,op,some (j,want)⟩::r) i k rs K sl st nx:=by
 refine Ig rfl hd hb ?_
 exact ja ok.mono ok.plain (s:=⟨(t,.tup [])::sl,st,nx⟩) (jO (us:=[]) (d:=some t) (v:=.tup []) rfl) h
theorem Zl {nx':Nat} (hn:nx+stride*all.length=nx') (h:hx P k (finish rs K) ⟨sl,st,nx'⟩):G P C all [] i k rs K sl st nx:=by
 subst hn
 show hx P (.o C all [] i::k) (finish rs K) ⟨sl,st,nx⟩
 rw [LC];exact h
theorem af {nx':Nat} (h:hx P k (finish rs K) ⟨sl,st,nx'⟩) (hn:nx+stride*all.length=nx':=by (try simp only [go_sem,reduceIte,Nat.reduceEqDiff,Nat.reduceAdd,Nat.reduceMul]);try rfl):G P C all [] i k rs K sl st nx:=Zl hn h
theorem bT [ok:Ok (HS P) k] {f:FuncId} {xs:List HX} {vs args:List HV} {K':HV->Prop} (hvs:xs.map (ev sl)=vs) (ha:cZ bV (fun j=>aA j st) vs=args) (hC:HT P f args K')
  (h:∀v,K' v->(aX vs || v.noRd)=true/\∃v' us n2 sl' st',unpack (nx+stride*i) v=(v',us,n2)/\n2<=nx+stride*(i+1)/\o8 d v' (kR sl st us)=(sl',st')/\G P (HS P) all r (i+1) k rs K sl' st' nx) :
  G P (HS P) all (⟨d,.call f xs,none⟩::r) i k rs K sl st nx:=by
 subst hvs
 refine O1 (ha▸hC) ?_
 intro v hv
 obtain ⟨h1,v',us,n2,sl',st',h2,h3,h4,h5⟩:=h v hv
 rw [h2]
 exact ⟨h1,h3,ja ok.mono ok.plain (jO h4) h5⟩
theorem jb {D:FuncId->List HV->HV->Prop} [ok:Ok (CS P D) k] {f:FuncId} {xs:List HX} {vs args:List HV} (hvs:xs.map (ev sl)=vs) (ha:cZ bV (fun j=>aA j st) vs=args) (hC:HT P f args (D f args)) (hex:∃r,D f args r/\r.deep=[])
  (h:∀v,D f args v->v.deep=[]->(aX vs || v.noRd)=true/\∃v' us n2 sl' st',unpack (nx+stride*i) v=(v',us,n2)/\n2<=nx+stride*(i+1)/\o8 d v' (kR sl st us)=(sl',st')/\G P (CS P D) all r (i+1) k rs K sl' st' nx) :
  G P (CS P D) all (⟨d,.call f xs,none⟩::r) i k rs K sl st nx:=by
 subst hvs ha
 refine NV hC hex ?_
 intro v hv hd
 obtain ⟨h1,v',us,n2,sl',st',h2,h3,h4,h5⟩:=h v hv hd
 rw [h2]
 exact ⟨h1,h3,ja ok.mono ok.plain (jO h4) h5⟩
theorem Gg [ok:Ok (HS P) k] {f:FuncId} {xs:List HX} {cap vs args:List HV} {K':HV->Prop} (hx:ev sl x=.fn f cap) (hvs:xs.map (ev sl)=vs) (ha:cZ bV (fun j=>aA j st) (vs++cap)=args) (hC:HT P f args K')
  (h:∀v,K' v->(aX (vs++cap) || v.noRd)=true/\∃v' us n2 sl' st',unpack (nx+stride*i) v=(v',us,n2)/\n2<=nx+stride*(i+1)/\o8 d v' (kR sl st us)=(sl',st')/\G P (HS P) all r (i+1) k rs K sl' st' nx) :
  G P (HS P) all (⟨d,.callv x xs,none⟩::r) i k rs K sl st nx:=by
 subst hvs
 refine Lj hx (ha▸hC) ?_
 intro v hv
 obtain ⟨h1,v',us,n2,sl',st',h2,h3,h4,h5⟩:=h v hv
 rw [h2]
 exact ⟨h1,h3,ja ok.mono ok.plain (jO h4) h5⟩
end
section
variable {P:Program} {k:List HI} {Q:HE->St->Prop} {s:St}
def LI {α:Type} (Inv:α->Prop) (S:α->St) (s:St):Prop:=∃a,Inv a/\s=S a
open Classical in
noncomputable def Lμ {α:Type} (Inv:α->Prop) (S:α->St) (m:α->Nat) (s:St):Nat:=if h:∃n,∃a,Inv a/\s=S a/\m a=n then Classical.choose (tV h) else 0
theorem Di {α:Type} {Inv:α->Prop} {S:α->St} {m:α->Nat} {s:St} (h:LI Inv S s):(∃a,Inv a/\s=S a/\m a=Lμ Inv S m s)/\∀a,Inv a->s=S a->Lμ Inv S m s<=m a:=by
 have hex:∃n,∃a,Inv a/\s=S a/\m a=n:=by obtain ⟨a,h1,h2⟩:=h;exact ⟨m a,a,h1,h2,rfl⟩
 have e:Lμ Inv S m s=Classical.choose (tV hex):=by unfold Lμ;rw [dif_pos hex]
 rw [e]
 have hs:=Classical.choose_spec (tV hex)
 exact ⟨hs.1,fun a h1 h2=>hs.2 _ ⟨a,h1,h2,rfl⟩⟩
theorem dn {α:Type} {b:HCode} (keep:List Nat) (Inv:α->Prop) (S:α->St) (m:α->Nat) (a0:α) (h0:Inv a0) (hn:norm2 keep s=S a0) (hr:∀a,Inv a->hx P (.c b::.l (LI Inv S) (Lμ Inv S m) (m a)::k) Q (S a)):hx P (.c (.loop b)::k) Q s:=by
 refine OL (LI Inv S) (Lμ Inv S m) (S a0) (hn▸Weak.norm2 keep s) ⟨a0,h0,rfl⟩ ?_
 intro s1 h1
 obtain ⟨⟨a,h2,h3,h4⟩,_⟩:=Di (m:=m) h1
 rw [<- h4]
 subst h3
 exact hr a h2
theorem dS {α:Type} {n:Nat} (keep:List Nat) {Inv:α->Prop} {S:α->St} {m:α->Nat} (a:α) (h1:Inv a) (h2:m a<n) (hn:norm2 keep s=S a):hx P (.l (LI Inv S) (Lμ Inv S m) n::k) Q s:=by
 refine aam (S a) (hn▸Weak.norm2 keep s) ⟨a,h1,rfl⟩ ?_
 exact Nat.lt_of_le_of_lt ((Di (m:=m) ⟨a,h1,rfl⟩).2 a h1 rfl) h2
theorem bU {x:HCode} (id:Nat) (keep:List Nat) (s0:St) (hn:norm2 keep (freeze id s)=s0) (h:hx P (.c x::k) Q s0):hx P (.c x::k) Q s:=nT ((Weak.freeze id s).trans (hn▸Weak.norm2 keep (freeze id s))) h
theorem dR {x:HCode} (keep:List Nat) (s0:St) (hn:norm2 keep s=s0) (h:hx P (.c x::k) Q s0):hx P (.c x::k) Q s:=nT (hn▸Weak.norm2 keep s) h
theorem OI {rs:List Nat} {K:HV->Prop} {sl st:List (Nat×HV)} {nx:Nat} {vs0 vs:List HV} {us:List Upd} {side:Prop} (hvs:(rs.map fun r=>aA r sl)=vs0) (h0:aP (fun j=>aA j st) vs0=(vs,us,side)) (hs:side) (hK:K (dE vs)) :
  hx P (.c .ret::k) (finish rs K) ⟨sl,st,nx⟩:=OQ (by rw [hvs];exact h0) hs hK
theorem ay {rs:List Nat} {K:HV->Prop} {sl st:List (Nat×HV)} {nx:Nat} {vs0 vs:List HV} {us:List Upd} {side:Prop} (hK:K (dE vs)) (hvs:(rs.map fun r=>aA r sl)=vs0:=by (try simp only [List.map_cons,List.map_nil]);repeat (first|(apply Vb;· exact aJ)|rfl)) (h0:aP (fun j=>aA j st) vs0=(vs,us,side):=by simp only [aP,takeD,takeC,aA,Lk.upd,if_true,if_false,reduceIte,Nat.reduceEqDiff,List.append_nil,List.nil_append];try rfl) (hs:side:=by first|trivial|(refine ⟨?_,?_⟩<;>trivial)|(simp only [and_true,true_and];done)):hx P (.c .ret::k) (finish rs K) ⟨sl,st,nx⟩:=OI hvs h0 hs hK
end
theorem PX {P:Program} {rs:List Nat} {K:HV->Prop} {sl st:List (Nat×HV)} {nx:Nat} {vs0 vs:List HV} {us:List Upd} {side:Prop} (hvs:(rs.map fun r=>aA r sl)=vs0) (h0:aP (fun j=>aA j st) vs0=(vs,us,side)) (hs:side) (hK:K (dE vs)) :
  hx P [] (finish rs K) ⟨sl,st,nx⟩:=by
 unfold hx hk finish
 simp only
 have hM:St.M ⟨sl,st,nx⟩=fun j=>aA j st:=rfl
 rw [hM,hvs,h0]
 exact ⟨hs,hK⟩
theorem yx {P:Program} {k:List HI} {Q:HE->St->Prop} {x:HCode} {sl st:List (Nat×HV)} {nx:Nat} (t:Nat) (keep:List Nat) {id sz m n:Nat} {ds:List HV} (s0:St) (h1:aA t sl=.ref id [] sz 0 m) (h2:aA id st=.osl sz n ds) (h4:m<=n) (h5:bW ds=true) (h6:0<sz)
  (hn:norm2 keep ⟨(t,.ref nx [] sz 0 m)::sl,(nx,.osl sz m (ds.take (m*sz)))::(id,.dead)::st,nx+1⟩=s0) (h:hx P (.c x::k) Q s0):hx P (.c x::k) Q ⟨sl,st,nx⟩:=by
 have e:shrink t ⟨sl,st,nx⟩=⟨(t,.ref nx [] sz 0 m)::sl,(nx,.osl sz m (ds.take (m*sz)))::(id,.dead)::st,nx+1⟩:=by
  have a1:St.S ⟨sl,st,nx⟩ t=.ref id [] sz 0 m:=h1
  have a2:St.M ⟨sl,st,nx⟩ id=.osl sz n ds:=h2
  unfold shrink
  rw [a1]
  simp only
  rw [a2]
  simp only
  rw [if_pos ⟨trivial,h4,h5,h6⟩]
 exact nT ((Weak.shrink t ⟨sl,st,nx⟩).trans (by rw [e];exact hn▸Weak.norm2 keep _)) h
end Go.HL
end
section
namespace Go.HL
open Go.RowKit
section
variable {P:Program} {E:Fr} {N fr:Nat} {sl st:Lk} {loc:Nat->Value} {fp:Nat->List Nat} {a:Act} {w:World}
theorem SRel.same {s s':St} (h:SRel E N s a w) (h1:s.S=s'.S) (h2:s.M=s'.M):SRel E N s' a w:=by
 obtain ⟨loc,fp,h⟩:=h
 exact ⟨loc,fp,h1▸h2▸h⟩
end
section
variable {P:Program} {all r:List aB} {i:Nat} {k:List HI} {rs:List Nat} {K:HV->Prop} {sl sl1 sl' st:List (Nat×HV)} {nx:Nat} {x y:HX} {t id sz bytes n m fr q:Nat} {cs ws cs':List HV} {v:HV} {sd:Prop}
theorem Jz {P:Program} {s:St} {i:Nat} {d:Option Nat} {op:HOp HX} {f:FuncId} {vs ts:List HV} {us:List Upd} {sd:Prop} {io ids:List Nat} {K':HV->List HV->Prop} {K:St->Prop} (hc:oL s op=some (f,vs)) (ht:aP s.M vs=(ts,us,sd)) (hs:sd) (hio:(io.map (fun j=>vs[j]?)=ids.map fun id=>some (HV.pref id [] 0))) (hids:ids.Nodup) (hC:HTI P f ts io K')
  (h:∀v outs,K' v outs->outs.length=ids.length->(unpack (s.nx+stride*i) v).2.2<=s.nx+stride*(i+1)/\K ((s.upd (us++kills ids++jX ids outs++(unpack (s.nx+stride*i) v).2.1)).put d (unpack (s.nx+stride*i) v).1)):mM P s i d op K:=by
 intro E ro a w next Q hd ho hr hn
 have h0:(s.M:Lk)=St.M { s with nx:=s.nx+stride*i }:=rfl
 have e1:ro.wp P a w next Q=({ ro with guard:=none }:Oper).wp P a w next Q:=rfl
 rw [e1]
 refine qP (s:={ s with nx:=s.nx+stride*i }) (K:=fun s1=>s1.nx<=s.nx+stride*(i+1)/\K { s1 with nx:=s.nx }) hr ?_ ?_
 ·have ht':(bn P E.ok { ro with guard:=none }).op=op:=by rw [<- ho];rfl
  have hd':(bn P E.ok { ro with guard:=none }).dst=d:=hd
  refine ⟨rfl,f,vs,io,ids,by rw [ht'];exact hc,by rw [<- h0,ht];exact hs,hio,hids,?_⟩
  rw [<- h0,ht,hd']
  refine hC.mono fun v outs hv hl=>?_
  obtain ⟨h1,h2⟩:=h v outs hv hl
  refine ⟨h1,?_⟩
  have e2:∀ (us:List Upd) (d:Option Nat) (v:HV) (n:Nat),({ ((St.upd { s with nx:=s.nx+stride*i } us).put d v) with nx:=n }:St)={ ((s.upd us).put d v) with nx:=n }:=by
   intro us d v n
   have:∀ (us:List Upd) (s:St) (m:Nat),St.upd { s with nx:=m } us={ s.upd us with nx:=m }:=by
    intro us
    induction us with
    | nil=>intro s m;rfl
    | cons u us ih =>
     intro s m
     cases u with
     | put id t=>exact ih { s with st:=yB id t s.st } m
     | kill id len=>exact ih { s with sl:=s.sl.map fun p=>(p.1,p.2.kill id len) } m
   rw [this]
   cases d<;>rfl
  have e3:∀ (us:List Upd) (d:Option Nat) (v:HV),({ ((s.upd us).put d v) with nx:=s.nx }:St)=(s.upd us).put d v:=by
   intro us d v
   have h4:=St.put_nx (s.upd us) d v
   rw [St.upd_nx] at h4
   rw [<- h4]
  show K { ({ ((St.upd { s with nx:=s.nx+stride*i } (us++kills ids++jX ids outs++(unpack (s.nx+stride*i) v).2.1)).put d (unpack (s.nx+stride*i) v).1) with nx:=(unpack (s.nx+stride*i) v).2.2 }:St) with nx:=s.nx }
  rw [e2]
  show K { ((s.upd _).put d _) with nx:=s.nx }
  rw [e3]
  exact h2
 ·rintro s1 a' w' ⟨h1,h2⟩ hr'
  refine hn { s1 with nx:=s.nx } a' w' rfl (SRel.same (hr'.up h1) rfl rfl) h2
theorem Gh [ok:Ok (HS P) k] {d:Option Nat} {op:HOp HX} {f:FuncId} {vs ts:List HV} {us:List Upd} {io ids:List Nat} {K':HV->List HV->Prop} (hc:oL ⟨sl,st,nx⟩ op=some (f,vs)) (ht:aP (fun j=>aA j st) vs=(ts,us,sd)) (hs:sd) (hio:(io.map (fun j=>vs[j]?)=ids.map fun id=>some (HV.pref id [] 0))) (hids:ids.Nodup) (hC:HTI P f ts io K')
  (h:∀v outs,K' v outs->outs.length=ids.length->∃v' us' n2 sl' st',unpack (nx+stride*i) v=(v',us',n2)/\n2<=nx+stride*(i+1)/\o8 d v' (kR sl st (us++kills ids++jX ids outs++us'))=(sl',st')/\G P (HS P) all r (i+1) k rs K sl' st' nx):G P (HS P) all (⟨d,op,none⟩::r) i k rs K sl st nx:=by
 refine mZ (Jz (s:=⟨sl,st,nx⟩) hc ht hs hio hids hC ?_)
 intro v outs hv hl
 obtain ⟨v',us',n2,sl',st',h2,h3,h4,h5⟩:=h v outs hv hl
 show (unpack (nx+stride*i) v).2.2<=nx+stride*(i+1)/\hx P _ _ ((St.upd ⟨sl,st,nx⟩ (us++kills ids++jX ids outs++(unpack (nx+stride*i) v).2.1)).put d (unpack (nx+stride*i) v).1)
 rw [h2]
 exact ⟨h3,ja ok.mono ok.plain (jO h4) h5⟩
theorem Bi [ok:Ok (HS P) k] {d:Option Nat} {f:FuncId} {xs:List HX} {vs ts:List HV} {us:List Upd} (io ids:List Nat) {K':HV->List HV->Prop} (hvs:xs.map (ev sl)=vs) (ht:aP (fun j=>aA j st) vs=(ts,us,sd)) (hs:sd) (hio:(io.map (fun j=>vs[j]?)=ids.map fun id=>some (HV.pref id [] 0))) (hids:ids.Nodup) (hC:HTI P f ts io K')
  (h:∀v outs,K' v outs->outs.length=ids.length->∃v' us' n2 sl' st',unpack (nx+stride*i) v=(v',us',n2)/\n2<=nx+stride*(i+1)/\o8 d v' (kR sl st (us++kills ids++jX ids outs++us'))=(sl',st')/\G P (HS P) all r (i+1) k rs K sl' st' nx):G P (HS P) all (⟨d,.call f xs,none⟩::r) i k rs K sl st nx :=
 Gh (by subst hvs;rfl) ht hs hio hids hC h
theorem wQ [ok:Ok (HS P) k] {d:Option Nat} {f:FuncId} {x:HX} {cap:List HV} {xs:List HX} {vs ts:List HV} {us:List Upd} (io ids:List Nat) {K':HV->List HV->Prop} (hf:ev sl x=.fn f cap) (hvs:xs.map (ev sl)++cap=vs) (ht:aP (fun j=>aA j st) vs=(ts,us,sd)) (hs:sd) (hio:(io.map (fun j=>vs[j]?)=ids.map fun id=>some (HV.pref id [] 0))) (hids:ids.Nodup) (hC:HTI P f ts io K')
  (h:∀v outs,K' v outs->outs.length=ids.length->∃v' us' n2 sl' st',unpack (nx+stride*i) v=(v',us',n2)/\n2<=nx+stride*(i+1)/\o8 d v' (kR sl st (us++kills ids++jX ids outs++us'))=(sl',st')/\G P (HS P) all r (i+1) k rs K sl' st' nx):G P (HS P) all (⟨d,.callv x xs,none⟩::r) i k rs K sl st nx :=
 Gh (by subst hvs;simp only [oL,HOp.map,hf]) ht hs hio hids hC h
theorem P9 {P:Program} {o:Oper} {nz:Nat} {x:HX} (h:aZ P o=.mv nz x):∃y,(o.op=.move y\/o.op=.assign y)/\x=eG y:=by
 unfold aZ at h
 repeat' split at h
 all_goals (first|(cases h;done)|(unfold rY at h;split at h<;>(cases h;done))|(unfold lN at h;split at h<;>(cases h;done))|skip)
 all_goals cases h
 ·exact ⟨_,.inl ‹_›,rfl⟩
 ·exact ⟨_,.inr ‹_›,rfl⟩
theorem OD {P:Program} {s:St} {i t nz:Nat} {x:HX} {K:St->Prop} (hx:ev s.sl x=.nils) (hK:K (s.put (some t) .nils)):mM P s i (some t) (.mv nz x) K:=by
 intro E ro a w next Q hd ho hr hn
 have hdst:ro.dst=some t:=hd
 have hop:aZ P ro=.mv nz x:=by
  unfold bn at ho
  by_cases h:(ro.dst.all fun d=>E.ok d)=true
  ·simpa [h] using ho
  ·simp [h] at ho
 have hok:E.ok t=true:=by
  unfold bn at ho
  by_cases h:(ro.dst.all fun d=>E.ok d)=true
  ·simpa [hdst] using h
  ·simp [h] at ho
 obtain ⟨y,hy,rfl⟩:=P9 hop
 obtain ⟨loc,fp,hr⟩:=hr
 have hv:=hr.val y
 rw [<- iq] at hv
 rw [hx] at hv
 have hrun:(execOp a.eval ro).run P w=.ok (.value (a.eval y)) w:=by
  obtain ⟨dst,op,type,pos,after,guard⟩:=ro
  rcases hy with h|h<;>(simp only at h;subst h;rfl)
 unfold Oper.wp
 rw [hrun]
 show next (a.put ro.dst (a.eval y)) w
 rw [hdst]
 have hA:After E (s.nx+stride*i) s.S s.M [] .nils (a.eval y) a w:=hr.pure (Nat.le_refl _) hv
 have h3:=SRel.done (s:=s) (d:=some t) hA (fun t' ht=>by cases ht;exact hok)
 exact hn (s.put (some t) .nils) _ _ (St.put_nx _ _ _) (h3.up (by unfold stride;omega)) hK
theorem BR [ok:Ok (HS P) k] {nz:Nat} (hx:ev sl x=.nils) (h:G P (HS P) all r (i+1) k rs K ((t,.nils)::sl) st nx):G P (HS P) all (⟨some t,.mv nz x,none⟩::r) i k rs K sl st nx:=by
 refine mZ (OD (s:=⟨sl,st,nx⟩) hx ?_)
 refine ja ok.mono ok.plain ?_ h
 refine ⟨?_,rfl,rfl⟩
 funext j
 exact uX j t .nils sl
end
end Go.HL
end
section
namespace Go.HL
open Go.RowKit
open Go.ChangeMaps (setBlock)
section
variable {P:Program} {E:Fr} {N fr:Nat} {sl st:Lk} {loc:Nat->Value} {fp:Nat->List Nat} {a:Act} {w:World}
theorem zB {o:Oper} {x:HX} (h:aZ P o=.mrng x):∃t y k e,o.op=.range t y/\P.underlying t=some (.map k e)/\x=eG y:=by
 unfold aZ at h
 repeat' split at h
 all_goals (first|(cases h;done)|(unfold rY at h;split at h<;>(cases h;done))|(unfold lN at h;split at h<;>(cases h;done))|skip)
 cases h
 exact ⟨_,_,_,_,‹_›,‹_›,rfl⟩
theorem zh {o:Oper} {x:HX} (h:aZ P o=.mnxt x):∃y,o.op=.next y false/\x=eG y:=by
 unfold aZ at h
 repeat' split at h
 all_goals (first|(cases h;done)|(unfold rY at h;split at h<;>(cases h;done))|(unfold lN at h;split at h<;>(cases h;done))|skip)
 cases h
 exact ⟨_,‹_›,rfl⟩
theorem H7 {o:Oper} {x:HX} (h:aZ P o=.ment x):∃y,o.op=.entry y/\x=eG y:=by
 unfold aZ at h
 repeat' split at h
 all_goals (first|(cases h;done)|(unfold rY at h;split at h<;>(cases h;done))|(unfold lN at h;split at h<;>(cases h;done))|skip)
 cases h
 exact ⟨_,‹_›,rfl⟩
theorem yw {t k e:TypeId} (ht:P.underlying t=some (.map k e)) {g:Nat} {es:Array MapEntry} {ck:Nat} (hg:w.heap[g]?=some (.map es ck)) :
  (Instr.range t (.map (some g))).run P w=.ok (.pointer (some ⟨w.heap.size,0,none⟩)) (w.alloc (.mapIter (some g) ck #[] ck)):=by
 simp [Instr.range,run_underlying ht,MapKept.run_getObj_map hg,newObj,Sem.run,Result.andThen,go_sem]
theorem xE {t k e:TypeId} (ht:P.underlying t=some (.map k e)) :
  (Instr.range t (.map none)).run P w=.ok (.pointer (some ⟨w.heap.size,0,none⟩)) (w.alloc (.mapIter none 0 #[] 0)):=by
 simp [Instr.range,run_underlying ht,newObj,Sem.run,Result.andThen,go_sem]
theorem AQ {F:Nat->Prop} {h:Hp} {b s c:Nat} {l:List Nat} {rv:Value} {fs:List Nat} (o:OW F h dU [.oitr b s l c] [rv] fs):∃g,rv=.pointer (some ⟨g,0,none⟩)/\fs=[g]/\h[g]?=some (.mapIter (UK b) s l.toArray c):=by
 cases o with
 | leaf _ _ _ _ _ _ h1=>exact h1.elim
 | oitr a d=>cases d;exact ⟨_,rfl,by simp,a⟩
theorem Fz (hr:Rel E N sl st loc fp a w) (hfr:N<=fr) {t k e:TypeId} (ht:P.underlying t=some (.map k e)) {id:Nat} {p:List Nat} {rx:Value} (hx:V E N st loc fp w (.mref id p) rx) {m:MK} {ks cs:List HV} (hn:aG (st id) p=.omap m ks cs) :
  ∃r w' k0 bs ck,(Instr.range t rx).run P w=.ok r w'/\bs.length=ks.length/\bs.Nodup/\(∀b∈bs,b<ck) /\
   After E (fr+1) sl st [.put id (dK (.omap ⟨m.kind,some (k0,bs,ck)⟩ ks cs) (st id) p),.put fr (.oitr (k0+1) ck [] ck)] (.mref fr []) r a w':=by
 obtain ⟨hid,hp,_,_,h4⟩:=nU hx
 have hnode:isNode (aG (st id) p):=by rw [hn];trivial
 obtain ⟨rv',f1,f',f2,e1,e2,e3,e4,hnil,rep⟩:=(hr.tree id (dB hnode)).focus hp hnode
 have b1:=h4 (by rw [hn];trivial)
 rw [e1] at b1
 cases b1
 rw [hn] at e3
 have e30:=e3
 obtain ⟨g,es,ck,f3,rfl,q1,q2,rfl,q4⟩:=rH e3
 refine ⟨_,_,g,es.toList.map (·.born),ck,yw ht q1,?_,q2.nodup,?_,?_⟩
 ·have:=congrArg List.length q2.keys
  simpa using this
 ·intro b hb
  obtain ⟨e,he,rfl⟩:=List.mem_map.1 hb
  exact q2.lt e he
 have old:∀b,b<w.heap.size->(w.alloc (.mapIter (some g) ck #[] ck)).heap[b]?=w.heap[b]?:=fun b hb=>fH w _ hb
 have hsz:(w.alloc (.mapIter (some g) ck #[] ck)).heap.size=w.heap.size+1:=dN w _
 have hnew:(w.alloc (.mapIter (some g) ck #[] ck)).heap[w.heap.size]?=some (.mapIter (some g) ck #[] ck):=gU w _ rfl
 have m2:(w.alloc (.mapIter (some g) ck #[] ck)).os=w.os:=rfl
 have m3:(w.alloc (.mapIter (some g) ck #[] ck)).tape=w.tape:=rfl
 have m4:(w.alloc (.mapIter (some g) ck #[] ck)).output=w.output:=rfl
 generalize w.alloc (.mapIter (some g) ck #[] ck)=w' at *
 have hsub:∀b∈g::f3,b<w.heap.size:=fun b hb=>hr.lt id b (by rw [e2];rcases List.mem_cons.1 hb with h|h<;>simp [h])
 have hfnd:(f1++(g::f3)++f2).Nodup:=by rw [<- e2];exact hr.nodup id
 have hnd3:(g::f3).Nodup:=by rw [List.nodup_append,List.nodup_append] at hfnd;exact hfnd.1.2.1
 have onode:OW (fA E fp w) w'.heap dU [.omap ⟨m.kind,some (g,es.toList.map (·.born),ck)⟩ ks cs] [.map (some g)] (g::f3):=by
  have:=OW.omap (F:=fA E fp w) (h:=w'.heap) (R:=dU) (m:=⟨m.kind,some (g,es.toList.map (·.born),ck)⟩) (ks:=ks) (cs:=cs) (by rw [old g (hsub g (by simp))];exact q1) ⟨q2.keys,q2.good,q2.lt,q2.nodup,.inr rfl⟩ (q4.stable (fun b hb=>old b (hsub b (by simp [hb]))) (fun b hb=>⟨hb,old b hb.1⟩) (fun _ _ h=>h)) .nil
  simpa using this
 have oit:OW (fA E fp w) w'.heap dU [.oitr (g+1) ck [] ck] [.pointer (some ⟨w.heap.size,0,none⟩)] [w.heap.size]:=by
  have:=OW.oitr (F:=fA E fp w) (h:=w'.heap) (R:=dU) (b:=g+1) (s:=ck) (l:=[]) (c:=ck) hnew .nil
  simpa using this
 have hidfr:id≠fr:=by omega
 have stus:∀j,Lk.upd st [.put id (dK (.omap ⟨m.kind,some (g,es.toList.map (·.born),ck)⟩ ks cs) (st id) p),.put fr (.oitr (g+1) ck [] ck)] j=if j=fr then .oitr (g+1) ck [] ck else if j=id then dK (.omap ⟨m.kind,some (g,es.toList.map (·.born),ck)⟩ ks cs) (st id) p else if j∈([]:List Nat) then .dead else st j:=fun j=>by
  simp [Lk.upd]
 have hcell:∀r',r'≠[]->r'.length<=2->(∃v,fE v=some id/\True/\((∃i sz o n,v=.ref i (p++r') sz o n)\/(∃i o,v=.pref i (p++r') o)\/∃i,v=.mref i (p++r'))) ->
   kind (aG (.omap ⟨m.kind,some (g,es.toList.map (·.born),ck)⟩ ks cs) r')=none\/(kind (aG (.omap ⟨m.kind,some (g,es.toList.map (·.born),ck)⟩ ks cs) r')=kind (aG (aG (st id) p) r')/\dM w'.heap (.map (some g)) r'=dM w.heap (.map (some g)) r'):=by
  intro r' hr' hl2 _
  cases r' with
  | nil=>exact absurd rfl hr'
  | cons j r' =>
   have he:aG (.omap ⟨m.kind,some (g,es.toList.map (·.born),ck)⟩ ks cs) (j::r')=aG (.omap m ks cs) (j::r'):=rfl
   rw [he,hn]
   by_cases hk:kind (aG (.omap m ks cs) (j::r'))=none
   ·exact .inl hk
   ·right
    refine ⟨rfl,?_⟩
    obtain ⟨rv2,g1,g2,g3,n1,n2,_,n4,_,_⟩:=e30.focus hl2 (kind_node.2 hk)
    rw [n1]
    exact (n4 w'.heap fun b hb=>old b (hsub b (by rw [n2];rcases List.mem_append.1 hb with h|h<;>simp [h]))).1
 obtain ⟨loc',fp',r1,r2,r3,r4⟩:=hr.mod _ hr.all hfr (ids:=[]) (by simp) (by simp) hp hnode e1 e2 e4 hnil rep stus (by omega) m2 m3 m4
  (fun b hb _ _=>old b hb) onode (.inr (by rw [hn];rfl)) (fun h=>by cases h) oit (fun h=>by cases h)
  (fun b hb=>by
   rcases List.mem_append.1 hb with h|h
   ·exact .inr (.inr h)
   ·simp at h;subst h;exact .inl ⟨Nat.le_refl _,by omega⟩)
  (by
   rw [List.nodup_append]
   exact ⟨hnd3,by simp,fun x hx y hy e=>by simp at hy;subst hy;have:=hsub x hx;omega⟩) hcell
 refine ⟨loc',fp',r1,dL rfl ⟨by omega,by simp,⟨_,.inr rfl⟩,?_,fun _=>by simp [dM,r2]⟩⟩
 simp [aG,Lk.upd]
theorem CE (hr:Rel E N sl st loc fp a w) (hfr:N<=fr) {t k e:TypeId} (ht:P.underlying t=some (.map k e)) :
  ∃r w',(Instr.range t (.map none)).run P w=.ok r w'/\After E (fr+1) sl st [.put fr (.oitr 0 0 [] 0)] (.mref fr []) r a w':=by
 refine ⟨_,_,xE ht,?_⟩
 have hT:=OW.oitr (F:=fA E fp w) (h:=(w.alloc (.mapIter none 0 #[] 0)).heap) (R:=dU) (b:=0) (s:=0) (l:=[]) (c:=0) (gU w _ rfl) .nil
 obtain ⟨loc',fp',q1,q2,q3,q4⟩:=hr.build (ids:=[]) (us:=[]) (w':=w.alloc (.mapIter none 0 #[] 0)) (T:=.oitr 0 0 [] 0) (rT:=.pointer (some ⟨w.heap.size,0,none⟩)) (fT:=[w.heap.size]) hfr (by simp) (by simp [Lk.upd]) (fun _=>rfl) (by rw [dN];omega) rfl rfl rfl (fun b hb _=>fH _ _ hb) (by simpa using hT) (by simp [dN]) (by simp) (by simp)
 exact ⟨loc',fp',q1,dL rfl ⟨by omega,by simp,⟨_,.inr rfl⟩,by simp [aG,Lk.upd],fun _=>by simp [dM,q2]⟩⟩
theorem Me {F:Nat->Prop} {h:Hp} {R:HV->Value->Prop} {kk:KK} {k:HV} (hg:dO kk k=true):OW F h R [k] [kv k] []:=by
 cases kk<;>cases k<;>simp only [dO,Bool.false_eq_true] at hg
 ·exact .int .nil
 ·exact .str .nil
 ·simp only [Bool.and_eq_true] at hg
  obtain ⟨l,rfl⟩:=nI hg.2
  rw [oZ]
  have hl:∀l:List Int,OW F h R (l.map (HV.int .i64)) (l.map (Value.int .i64)) []:=fun l=>by
   induction l with
   | nil=>exact .nil
   | cons n l ih=>exact .int ih
  have:=OW.agg (hl l) .nil
  simpa using this
theorem Eu (hr:Rel E N sl st loc fp a w) (hfr:N<=fr) {ty:TypeId} {iid id k0 since last ck:Nat} {p:List Nat} {seen bs:List Nat} {rx:Value} {kd:KK} {ks cs:List HV} (hx:V E N st loc fp w (.mref iid []) rx) (hit:st iid=.oitr (k0+1) since seen last)
  (hp:p.length<=2) (hn:aG (st id) p=.omap ⟨kd,some (k0,bs,ck)⟩ ks cs) (hold:∀b∈bs,b<since) (hsc:since<=last) :
  ∃r w',(Instr.next rx false ty).run P w=.ok r w' /\
   (((∀b∈bs,b∈seen)/\After E (fr+1) sl st [] (.tup [.bool false]) r a w') \/
    ∃j,j<ks.length/\j<cs.length/\bs.getD j 0 ∉ seen/\After E (fr+1) sl st [.put iid (.oitr (k0+1) since (seen++[bs.getD j 0]) ck)] (.tup [.bool true,ks.getD j .dead,look id p j (cs.getD j .dead)]) r a w'):=by
 obtain ⟨hidN,_,_,_,h4⟩:=nU hx
 have b1:=h4 (by rw [aG,hit];trivial)
 simp only [dM,Option.some.injEq] at b1
 subst b1
 have hti:=hr.tree iid (by rw [hit];simp)
 rw [hit] at hti
 obtain ⟨gi,hli,hfi,hgi⟩:=AQ hti
 have hnode:isNode (aG (st id) p):=by rw [hn];trivial
 have hmd:=dB hnode
 obtain ⟨rv',f1,f',f2,e1,e2,e3,e4,hnil,rep⟩:=(hr.tree id hmd).focus hp hnode
 rw [hn] at e3
 obtain ⟨g,es,ck',f3,rfl,q1,q2,rfl,q4⟩:=rH e3
 have hpin:(some (k0,bs,ck):Option (Nat×List Nat×Nat))=some (g,es.toList.map (·.born),ck'):=by
  rcases q2.pin with h|h
  ·cases h
  ·exact h
 simp only [Option.some.injEq,Prod.mk.injEq] at hpin
 obtain ⟨rfl,rfl,rfl⟩:=hpin
 have hne:iid≠id:=fun e=>by
  subst e
  rw [hit] at hn
  cases p<;>simp [aG] at hn
 have hid:id<N:=by
  rcases Nat.lt_or_ge id N with h|h
  ·exact h
  ·exact absurd (hr.new id h) hmd
 have hold':∀x∈es.toList,x.born<since:=fun x hx=>hold _ (List.mem_map.2 ⟨x,hx,rfl⟩)
 rw [hli]
 rcases run_next_at (P:=P) w ty gi k0 since last seen.toArray es ck (by simpa [UK] using hgi) q1 hold' hsc with ⟨hd,hrun⟩|⟨e,he,w1,hw1,hrun⟩
 ·refine ⟨_,w,hrun,.inl ⟨fun b hb=>?_,?_⟩⟩
  ·obtain ⟨x,hx,rfl⟩:=List.mem_map.1 hb
   have h0:leftOf es seen.toArray=#[]:=Array.eq_empty_of_size_eq_zero hd
   unfold leftOf at h0
   rw [Array.filter_eq_empty_iff] at h0
   have:=h0 x (by simpa using hx)
   simpa using this
  ·exact hr.pure (by omega) (by simpa using OW.tup (OW.bool (b:=false) .nil) .nil)
 ·have hmem:e∈es.toList/\e.born ∉ seen:=by
   unfold leftOf at he
   simpa using he
  obtain ⟨j,hj⟩:=List.mem_iff_getElem?.1 hmem.1
  have hjl:j<es.toList.length:=(List.getElem?_eq_some_iff.1 hj).1
  have hkl:es.toList.length=ks.length:=by simpa using congrArg List.length q2.keys
  have hcl:cs.length=es.toList.length:=by simpa using q4.length
  have hbj:(es.toList.map (·.born)).getD j 0=e.born:=by
   simp only [List.getD_eq_getElem?_getD,List.getElem?_map,hj,Option.map_some,Option.getD_some]
  refine ⟨_,_,hrun,.inr ⟨j,by omega,by omega,by rw [hbj];exact hmem.2,?_⟩⟩
  rw [hbj]
  have hr1:Rel E N sl st loc fp a w1:=by
   rcases hw1 with rfl|rfl
   ·exact hr
   ·exact hr.drew _
  have hh1:w1.heap=w.heap:=by rcases hw1 with rfl|rfl<;>rfl
  have hgi1:w1.heap[gi]?=some (.mapIter (some k0) since seen.toArray last):=by rw [hh1];simpa [UK] using hgi
  have hx1:V E N st loc fp w1 (.mref iid []) (loc iid):=dL rfl ⟨hidN,by simp,⟨gi,.inr hli⟩,by rw [aG,hit];simp,fun _=>rfl⟩
  have d1:(setBlock w1 gi (.mapIter (some k0) since (seen.toArray.push e.born) ck)).heap[gi]?=some (.mapIter (some k0) since (seen.toArray.push e.born) ck):=(MapKept.heap_set hgi1).1
  have oth:∀b,b≠gi->(setBlock w1 gi (.mapIter (some k0) since (seen.toArray.push e.born) ck)).heap[b]?=w1.heap[b]?:=fun b hb=>(MapKept.heap_set hgi1).2 b hb
  have m1:(setBlock w1 gi (.mapIter (some k0) since (seen.toArray.push e.born) ck)).heap.size=w1.heap.size:=by simp [setBlock]
  have m2:(setBlock w1 gi (.mapIter (some k0) since (seen.toArray.push e.born) ck)).os=w1.os:=rfl
  have m3:(setBlock w1 gi (.mapIter (some k0) since (seen.toArray.push e.born) ck)).tape=w1.tape:=rfl
  have m4:(setBlock w1 gi (.mapIter (some k0) since (seen.toArray.push e.born) ck)).output=w1.output:=rfl
  generalize setBlock w1 gi (.mapIter (some k0) since (seen.toArray.push e.born) ck)=w' at *
  have oit:OW (fA E fp w1) w'.heap dU [.oitr (k0+1) since (seen++[e.born]) ck] [loc iid] [gi]:=by
   have:=OW.oitr (F:=fA E fp w1) (h:=w'.heap) (R:=dU) (b:=k0+1) (s:=since) (l:=seen++[e.born]) (c:=ck) (by rw [d1];simp [UK]) .nil
   rw [hli]
   simpa using this
  have stus:∀i,Lk.upd st [.put iid (.oitr (k0+1) since (seen++[e.born]) ck)] i=if i=fr then .dead else if i=iid then dK (.oitr (k0+1) since (seen++[e.born]) ck) (st iid) [] else if i∈([]:List Nat) then .dead else st i:=fun i=>by
   have:iid≠fr:=by omega
   simp only [Lk.upd,dK]
   by_cases h1:i=iid
   ·simp [h1,this]
   ·by_cases h2:i=fr
    ·subst h2;simp [h1,hr.new i hfr]
    ·simp [h1,h2]
  obtain ⟨loc',fp',r1,r2,r3,r4⟩:=hr1.mod _ hr1.all hfr (ids:=[]) (id0:=iid) (p:=[]) (by simp) (by simp) (by simp) (by rw [aG,hit];trivial) (rv':=loc iid) (f1:=[]) (f':=fp iid) (f2:=[]) rfl (by simp)
   (fun h' _=>⟨rfl,fun q _ _ hq=>absurd List.nil_prefix hq⟩) (by simp) (fun F' h' t'' f'' _ _ on=>by simpa [dK] using on) stus (by omega) m2 m3 m4
   (fun b _ _ hb=>oth b (fun e=>hb (by rw [hfi];simp [e]))) oit (.inr (by rw [aG,hit];rfl)) (fun h=>by cases h) (.dead .nil:OW (fA E fp w1) w'.heap dU [.dead] [undef] []) (fun _=>rfl)
   (fun b hb=>by rw [hfi];exact .inr (.inr (by simpa using hb))) (by simp)
   (fun r hr0 _ _=>.inl (by cases r with|nil=>exact absurd rfl hr0|cons _ _=>rfl))
  refine ⟨loc',fp',r1,?_⟩
  obtain ⟨rv,g1,g2,g3,k1,k2,k3,_⟩:=q4.at j (by omega)
  rw [List.getElem?_map,hj] at k1
  simp only [Option.map_some,Option.some.injEq] at k1
  subst k1
  have lk:OW (fA E fp w) w.heap (RefR N st loc w.heap) [look id p j (cs.getD j .dead)] [e.val] []:=k3.look hid hp (fun _ _ h=>h.elim) ⟨by rw [kw,hn];simp [aG],by
   rw [oC e1]
   have hj2:es[j]?=some e:=by simpa using hj
   simp only [dM,jd,Nat.zero_add]
   rw [tq q1,hj2];rfl⟩
  have hkey:e.key=kv (ks.getD j .dead):=by
   have h1:(es.toList.map (·.key))[j]?=(ks.map kv)[j]?:=by rw [q2.keys]
   have hjk:j<ks.length:=by omega
   rw [List.getElem?_map,hj,List.getElem?_map,List.getElem?_eq_getElem hjk] at h1
   simp only [Option.map_some,Option.some.injEq] at h1
   rw [h1];simp [hjk]
  have hgk:dO kd (ks.getD j .dead)=true:=by
   have hjk:j<ks.length:=by omega
   have:=List.all_eq_true.1 q2.good _ (List.getElem_mem hjk)
   simpa [hjk] using this
  have lk':=lk.stable (F':=fA E fp' w') (h':=w'.heap) (R':=RefR (fr+1) (Lk.upd st [.put iid (.oitr (k0+1) since (seen++[e.born]) ck)]) loc' w'.heap) (by simp) (fun b hb=>by
   have hb1:fA E fp w1 b:=by unfold fA at hb ⊢;rw [hh1];exact hb
   have:=r3 b hb1
   rw [<- hh1];exact this) (fun v rv hv=>r4 v rv (by rw [hh1];exact hv) trivial)
  have key':OW (fA E fp' w') w'.heap (RefR (fr+1) (Lk.upd st [.put iid (.oitr (k0+1) since (seen++[e.born]) ck)]) loc' w'.heap) [ks.getD j .dead] [e.key] []:=by rw [hkey];exact Me hgk
  have:=OW.tup ((OW.bool (b:=true) .nil:OW (fA E fp' w') w'.heap (RefR (fr+1) (Lk.upd st [.put iid (.oitr (k0+1) since (seen++[e.born]) ck)]) loc' w'.heap) [.bool true] [.bool true] []).append (key'.append lk')) .nil
  simpa using this
theorem BX (hr:Rel E N sl st loc fp a w) (hfr:N<=fr) {ty:TypeId} {iid since last:Nat} {seen:List Nat} {rx:Value} (hx:V E N st loc fp w (.mref iid []) rx) (hit:st iid=.oitr 0 since seen last) :
  ∃r,(Instr.next rx false ty).run P w=.ok r w/\After E (fr+1) sl st [] (.tup [.bool false]) r a w:=by
 obtain ⟨hidN,_,_,_,h4⟩:=nU hx
 have b1:=h4 (by rw [aG,hit];trivial)
 simp only [dM,Option.some.injEq] at b1
 subst b1
 have hti:=hr.tree iid (by rw [hit];simp)
 rw [hit] at hti
 obtain ⟨gi,hli,hfi,hgi⟩:=AQ hti
 rw [hli]
 refine ⟨.tuple #[.bool false],?_,hr.pure (by omega) (by simpa using OW.tup (OW.bool (b:=false) .nil) .nil)⟩
 simp [Instr.next,getObj,Sem.run,hgi,UK,Result.andThen,go_sem]
theorem Fv (hr:Rel E N sl st loc fp a w) (hfr:N<=fr) {iid id k0 since j ck:Nat} {p:List Nat} {seen bs:List Nat} {rx:Value} {kd:KK} {ks cs:List HV} (hx:V E N st loc fp w (.mref iid []) rx) (hit:st iid=.oitr (k0+1) since (seen++[bs.getD j 0]) ck)
  (hp:p.length<=2) (hn:aG (st id) p=.omap ⟨kd,some (k0,bs,ck)⟩ ks cs) (hj:j<ks.length) :
  ∃r,(Instr.entry rx).run P w=.ok r w/\After E (fr+1) sl st [] (.tup [ks.getD j .dead,look id p j (cs.getD j .dead)]) r a w:=by
 obtain ⟨hidN,_,_,_,h4⟩:=nU hx
 have b1:=h4 (by rw [aG,hit];trivial)
 simp only [dM,Option.some.injEq] at b1
 subst b1
 have hti:=hr.tree iid (by rw [hit];simp)
 rw [hit] at hti
 obtain ⟨gi,hli,hfi,hgi⟩:=AQ hti
 have hnode:isNode (aG (st id) p):=by rw [hn];trivial
 have hmd:=dB hnode
 obtain ⟨rv',f1,f',f2,e1,e2,e3,e4,hnil,rep⟩:=(hr.tree id hmd).focus hp hnode
 rw [hn] at e3
 obtain ⟨g,es,ck',f3,rfl,q1,q2,rfl,q4⟩:=rH e3
 have hpin:(some (k0,bs,ck):Option (Nat×List Nat×Nat))=some (g,es.toList.map (·.born),ck'):=by
  rcases q2.pin with h|h
  ·cases h
  ·exact h
 simp only [Option.some.injEq,Prod.mk.injEq] at hpin
 obtain ⟨rfl,rfl,rfl⟩:=hpin
 have hid:id<N:=by
  rcases Nat.lt_or_ge id N with h|h
  ·exact h
  ·exact absurd (hr.new id h) hmd
 have hkl:es.toList.length=ks.length:=by simpa using congrArg List.length q2.keys
 have hcl:cs.length=es.toList.length:=by simpa using q4.length
 have hjl:j<es.toList.length:=by omega
 have hbj:(es.toList.map (·.born)).getD j 0=es.toList[j].born:=by
  simp only [List.getD_eq_getElem?_getD,List.getElem?_map,List.getElem?_eq_getElem hjl,Option.map_some,Option.getD_some]
 have he:es.toList[j]∈es.toList:=List.getElem_mem hjl
 rw [hli]
 refine ⟨_,run_entry_at w gi k0 since seen.toArray es ck es.toList[j] (by rw [hgi,hbj];simp [UK]) q1 he q2.nodup,hr.pure (by omega) ?_⟩
 have hjj:es.toList[j]?=some es.toList[j]:=List.getElem?_eq_getElem hjl
 generalize es.toList[j]=e at *
 obtain ⟨rv,g1,g2,g3,k1,k2,k3,_⟩:=q4.at j (by omega)
 rw [List.getElem?_map,hjj] at k1
 simp only [Option.map_some,Option.some.injEq] at k1
 subst k1
 have lk:OW (fA E fp w) w.heap (RefR N st loc w.heap) [look id p j (cs.getD j .dead)] [e.val] []:=k3.look hid hp (fun _ _ h=>h.elim) ⟨by rw [kw,hn];simp [aG],by
  rw [oC e1]
  have hj2:es[j]?=some e:=by simpa using hjj
  simp only [dM,jd,Nat.zero_add]
  rw [tq q1,hj2];rfl⟩
 have hkey:e.key=kv (ks.getD j .dead):=by
  have h1:(es.toList.map (·.key))[j]?=(ks.map kv)[j]?:=by rw [q2.keys]
  rw [List.getElem?_map,hjj,List.getElem?_map,List.getElem?_eq_getElem hj] at h1
  simp only [Option.map_some,Option.some.injEq] at h1
  rw [h1];simp [hj]
 have hgk:dO kd (ks.getD j .dead)=true:=by
  have:=List.all_eq_true.1 q2.good _ (List.getElem_mem hj)
  simpa [hj] using this
 have key':OW (fA E fp w) w.heap (RefR N st loc w.heap) [ks.getD j .dead] [e.key] []:=by rw [hkey];exact Me hgk
 have:=OW.tup (key'.append lk) .nil
 simpa using this
theorem wW {s:St} {i:Nat} {d:Option Nat} {op:HOp HX} {K:St->Prop} (h:∀ (E:Fr) (ro:Oper) (a:Act) (w:World) (loc:Nat->Value) (fp:Nat->List Nat),aZ P ro=op->Rel E (s.nx+stride*i) s.S s.M loc fp a w ->
  ∃r w' us v,(execOp a.eval ro).run P w=.ok (.value r) w'/\After E (s.nx+stride*i+1) s.S s.M us v r a w'/\K ((s.upd us).put d v)) (hop:op≠.bad):mM P s i d op K:=by
 intro E ro a w next Q hd ho hr hnext
 have hdst:ro.dst=d:=hd
 have hok:(ro.dst.all fun d=>E.ok d)=true:=by
  by_cases hh:(ro.dst.all fun d=>E.ok d)=true
  ·exact hh
  ·exfalso
   unfold bn at ho
   simp only [hh] at ho
   exact hop ho.symm
 have hop':aZ P ro=op:=by
  unfold bn at ho
  simpa [hok] using ho
 obtain ⟨loc,fp,hr⟩:=hr
 obtain ⟨r,w',us,v,h1,h2,h3⟩:=h E ro a w loc fp hop' hr
 unfold Oper.wp
 rw [h1]
 show next (a.put ro.dst r) w'
 rw [hdst]
 refine hnext _ _ _ ?_ ((SRel.done (s:=s) (d:=d) h2 (fun t' ht=>by rw [hdst,ht] at hok;simpa using hok)).up (by unfold stride;omega)) h3
 rw [St.put_nx,St.upd_nx]
theorem LW {s:St} {i:Nat} {d:Option Nat} {x:HX} {id:Nat} {p:List Nat} {m:MK} {ks cs:List HV} {K:St->Prop} (hx:ev s.sl x=.mref id p) (hn:aG (s.M id) p=.omap m ks cs)
  (hK:∀k0 bs ck,bs.length=ks.length->bs.Nodup->(∀b∈bs,b<ck)->K ((s.upd [.put id (dK (.omap ⟨m.kind,some (k0,bs,ck)⟩ ks cs) (s.M id) p),.put (s.nx+stride*i) (.oitr (k0+1) ck [] ck)]).put d (.mref (s.nx+stride*i) []))):mM P s i d (.mrng x) K:=by
 refine wW (fun E ro a w loc fp ho hr=>?_) (by simp)
 obtain ⟨t,y,k,e,q1,q2,rfl⟩:=zB ho
 have hxv:=hr.val y
 rw [<- iq,hx] at hxv
 obtain ⟨r,w',k0,bs,ck,h1,h2,h3,h4,h5⟩:=Fz (P:=P) hr (Nat.le_refl _) q2 hxv hn
 exact ⟨r,w',_,_,by simp [execOp,q1,h1],h5,hK k0 bs ck h2 h3 h4⟩
theorem Jo {s:St} {i:Nat} {d:Option Nat} {x:HX} {K:St->Prop} (hx:ev s.sl x=.nilm)
  (hK:K ((s.upd [.put (s.nx+stride*i) (.oitr 0 0 [] 0)]).put d (.mref (s.nx+stride*i) []))):mM P s i d (.mrng x) K:=by
 refine wW (fun E ro a w loc fp ho hr=>?_) (by simp)
 obtain ⟨t,y,k,e,q1,q2,rfl⟩:=zB ho
 have hxv:=hr.val y
 rw [<- iq,hx] at hxv
 have hv:=uB hxv
 obtain ⟨r,w',h1,h5⟩:=CE (P:=P) hr (Nat.le_refl _) q2
 exact ⟨r,w',_,_,by simp [execOp,q1,hv,h1],h5,hK⟩
theorem MH {s:St} {i:Nat} {d:Option Nat} {x:HX} {iid id k0 since last ck:Nat} {p:List Nat} {seen bs:List Nat} {kd:KK} {ks cs:List HV} {K:St->Prop} (hx:ev s.sl x=.mref iid []) (hit:s.M iid=.oitr (k0+1) since seen last)
  (hp:p.length<=2) (hn:aG (s.M id) p=.omap ⟨kd,some (k0,bs,ck)⟩ ks cs) (hold:∀b∈bs,b<since) (hsc:since<=last)
  (hdone:(∀b∈bs,b∈seen)->K (s.put d (.tup [.bool false])))
  (hmore:∀j,j<ks.length->j<cs.length->bs.getD j 0 ∉ seen->K ((s.upd [.put iid (.oitr (k0+1) since (seen++[bs.getD j 0]) ck)]).put d (.tup [.bool true,ks.getD j .dead,look id p j (cs.getD j .dead)]))):mM P s i d (.mnxt x) K:=by
 refine wW (fun E ro a w loc fp ho hr=>?_) (by simp)
 obtain ⟨y,q1,rfl⟩:=zh ho
 have hxv:=hr.val y
 rw [<- iq,hx] at hxv
 obtain ⟨r,w',h1,h2⟩:=Eu (P:=P) (ty:=ro.type) hr (Nat.le_refl _) hxv hit hp hn hold hsc
 rcases h2 with ⟨h2,h3⟩|⟨j,h2,h3,h4,h5⟩
 ·exact ⟨r,w',_,_,by simp [execOp,q1,h1],h3,hdone h2⟩
 ·exact ⟨r,w',_,_,by simp [execOp,q1,h1],h5,hmore j h2 h3 h4⟩
theorem Ip {s:St} {i:Nat} {d:Option Nat} {x:HX} {iid since last:Nat} {seen:List Nat} {K:St->Prop} (hx:ev s.sl x=.mref iid []) (hit:s.M iid=.oitr 0 since seen last)
  (hK:K (s.put d (.tup [.bool false]))):mM P s i d (.mnxt x) K:=by
 refine wW (fun E ro a w loc fp ho hr=>?_) (by simp)
 obtain ⟨y,q1,rfl⟩:=zh ho
 have hxv:=hr.val y
 rw [<- iq,hx] at hxv
 obtain ⟨r,h1,h3⟩:=BX (P:=P) (ty:=ro.type) hr (Nat.le_refl _) hxv hit
 exact ⟨r,w,_,_,by simp [execOp,q1,h1],h3,hK⟩
theorem JK {s:St} {i:Nat} {d:Option Nat} {x:HX} {iid id k0 since ck j:Nat} {p:List Nat} {seen bs:List Nat} {kd:KK} {ks cs:List HV} {K:St->Prop} (hx:ev s.sl x=.mref iid []) (hit:s.M iid=.oitr (k0+1) since (seen++[bs.getD j 0]) ck)
  (hp:p.length<=2) (hn:aG (s.M id) p=.omap ⟨kd,some (k0,bs,ck)⟩ ks cs) (hj:j<ks.length)
  (hK:K (s.put d (.tup [ks.getD j .dead,look id p j (cs.getD j .dead)]))):mM P s i d (.ment x) K:=by
 refine wW (fun E ro a w loc fp ho hr=>?_) (by simp)
 obtain ⟨y,q1,rfl⟩:=H7 ho
 have hxv:=hr.val y
 rw [<- iq,hx] at hxv
 obtain ⟨r,h1,h3⟩:=Fv (P:=P) hr (Nat.le_refl _) hxv hit hp hn hj
 exact ⟨r,w,_,_,by simp [execOp,q1,h1],h3,hK⟩
end
end Go.HL
end
section
namespace Go.HL
open Go.RowKit
theorem eM {v:HV} {id:Nat} {p:List Nat} (h:v=.mref id p):v=.mref id p:=h
theorem eK {v:HV} (h:v=.nilm):v=.nilm:=h
theorem eV {v:HV} {m:MK} {ks cs:List HV} (h:v=.rmap m ks cs):v=.rmap m ks cs:=h
theorem eY {v:HV} {m:MK} {ks cs:List HV} (h:v=.omap m ks cs):v=.omap m ks cs:=h
def yQ (ks cs:List HV) (z k:HV):HV×Bool :=
 match eH k ks with
 | some j=>(cs.getD j .dead,true)
 | none=>(z,false)
def mG (id:Nat) (p:List Nat) (ks cs:List HV) (z k:HV):HV×Bool :=
 match eH k ks with
 | some j=>(look id p j (cs.getD j .dead),true)
 | none=>(z,false)
theorem Ji {id j:Nat} {p:List Nat} {v:HV} (h:gp v=true):look id p j v=v:=by
 cases v<;>first|rfl|cases h
theorem sQ {id:Nat} {p:List Nat} {ks cs:List HV} {z k:HV} (hl:cs.length=ks.length) (h:bW cs=true):mG id p ks cs z k=yQ ks cs z k:=by
 unfold mG yQ
 cases hf:eH k ks with
 | none=>rfl
 | some j =>
  have hj:j<cs.length:=by rw [hl];exact mX hf
  have:gp (cs.getD j .dead)=true:=by
   have:=List.all_eq_true.1 h _ (List.getElem_mem hj)
   simpa [hj] using this
  simp only [Ji this]
structure KF {α:Type} [DecidableEq α] (f:α->HV):Prop where
 eq:∀a b,qC (f a) (f b)=decide (a=b)
theorem jW {α:Type} [DecidableEq α] {f:α->HV} (K:KF f) (a:α):∀l:List α,eH (f a) (l.map f)=if a∈l then some (l.idxOf a) else none
 | []=>rfl
 | b::l=>by
  simp only [List.map_cons,eH,K.eq,jW K a l,List.mem_cons]
  by_cases h:a=b
  ·subst h;simp
  ·have h':¬ b=a:=fun e=>h e.symm
   by_cases h2:a∈l
   ·have hb:(b==a)=false:=by simpa using h'
    simp [h,h2,List.idxOf_cons,hb]
   ·simp [h,h2]
theorem JF {α:Type} [DecidableEq α] {f g:α->HV} (K:KF f) (a:α) (l:List α) (z:HV):yQ (l.map f) (l.map g) z (f a)=if a∈l then (g a,true) else (z,false):=by
 unfold yQ
 rw [jW K]
 by_cases h:a∈l
 ·simp only [if_pos h]
  have hj:l.idxOf a<l.length:=List.idxOf_lt_length_of_mem h
  simp [List.getElem?_eq_getElem hj]
 ·simp only [if_neg h]
def ins {α:Type} [DecidableEq α] (a:α) (l:List α):List α:=if a∈l then l else l++[a]
theorem mem_ins {α:Type} [DecidableEq α] {a b:α} {l:List α}:b∈ins a l <-> b=a\/b∈l:=by
 unfold ins;split
 ·rename_i h;constructor
  ·exact .inr
  ·rintro (rfl|h');exact h;exact h'
 ·simp [or_comm]
theorem ins_nodup {α:Type} [DecidableEq α] {a:α} {l:List α} (h:l.Nodup):(ins a l).Nodup:=by
 unfold ins;split
 ·exact h
 ·rename_i h2
  rw [List.nodup_append]
  exact ⟨h,by simp,fun x hx y hy e=>by simp at hy;subst hy;exact h2 (e▸hx)⟩
abbrev kT (n:Nat):List HV:=List.replicate n (.bool true)
theorem Oo {α:Type} (l:List α):kT l.length=l.map fun _=>HV.bool true:=by simp only [kT];exact (List.map_const' ..).symm
theorem Cm {α:Type} [DecidableEq α] {f:α->HV} (K:KF f) (a:α) (l:List α):yQ (l.map f) (kT l.length) (.bool false) (f a)=(.bool (decide (a∈l)),decide (a∈l)):=by
 rw [Oo,JF K]
 by_cases h:a∈l<;>simp [h]
theorem Jw {α:Type} [DecidableEq α] {f:α->HV} (K:KF f) {id:Nat} {p:List Nat} (a:α) (l:List α):mG id p (l.map f) (kT l.length) (.bool false) (f a)=(.bool (decide (a∈l)),decide (a∈l)):=by
 rw [sQ (by simp [kT]) (by simp [kT,bW,gp]),Cm K]
theorem JM {α:Type} [DecidableEq α] {f:α->HV} (K:KF f) {kd:KK} (a:α) (l:List α):rX ⟨kd,none⟩ (l.map f) (kT l.length) (f a) (.bool true)=.omap ⟨kd,none⟩ ((ins a l).map f) (kT (ins a l).length):=by
 unfold rX ins
 rw [jW K]
 by_cases h:a∈l
 ·simp only [if_pos h]
  congr 1
  apply List.ext_getElem?
  intro i
  rw [List.getElem?_set]
  split
  ·rename_i e;subst e
   have:l.idxOf a<(kT l.length).length:=by simpa [kT] using List.idxOf_lt_length_of_mem h
   have h2:l.idxOf a<l.length:=List.idxOf_lt_length_of_mem h
   simp [kT,h2]
  ·rfl
 ·simp only [if_neg h]
  simp [MK.grow,kT,List.replicate_succ']
theorem Dy {α:Type} [DecidableEq α] {f:α->HV} (K:KF f) {kd:KK} (a:α) (l:List α) (cs:List HV) (v:HV) (h:a ∉ l):rX ⟨kd,none⟩ (l.map f) cs (f a) v=.omap ⟨kd,none⟩ ((l++[a]).map f) (cs++[v]):=by
 unfold rX
 rw [jW K,if_neg h]
 simp [MK.grow]
abbrev pk (x:Int×Int):HV:=.agg [.int .i64 x.1,.int .i64 x.2]
theorem yX:KF pk:=⟨fun a b=>by
 obtain ⟨a1,a2⟩:=a
 obtain ⟨b1,b2⟩:=b
 simp only [qC,qK,Bool.and_true,Prod.mk.injEq]
 by_cases h1:a1=b1<;>by_cases h2:a2=b2<;>simp [h1,h2]⟩
abbrev ik (x:Int):HV:=.int .i64 x
theorem Nu:KF ik:=⟨fun a b=>by simp only [qC];by_cases h:a=b<;>simp [h]⟩
section
variable {P:Program} {C:CallSpec} {all r:List aB} {i:Nat} {k:List HI} {rs:List Nat} {K:HV->Prop} {sl st sl' st':List (Nat×HV)} {nx:Nat}
variable {x y z:HX} {t:Nat} {u v w w' zz kx T:HV} {kk:KK} {b ok':Bool} {cs ks:List HV} {m:MK} {n id off sz:Nat} {path:List Nat}
theorem uC [ok:Ok C k] {fr:Nat} (hf:nx+stride*i=fr) (h:G P C all r (i+1) k rs K ((t,.mref fr [])::sl) ((fr,.omap ⟨kk,none⟩ [] [])::st) nx):G P C all (⟨some t,.mkmap kk,none⟩::r) i k rs K sl st nx:=by
 subst hf
 exact gK ok.mono ok.plain (v:=.mref _ []) (us:=[.put _ (.omap ⟨kk,none⟩ [] [])]) (side:=True) rfl rfl rfl trivial rfl h
theorem Gx [ok:Ok C k] (hx:ev sl x=.rmap m ks cs) (hk:ev sl y=kx) (hg:m.kind=kk/\dO kk kx=true) (hm:yQ ks cs zz kx=(w,b)) (hv:okV ok' w b=v) (h:G P C all r (i+1) k rs K ((t,v)::sl) st nx):G P C all (⟨some t,.mlook ok' kk zz x y,none⟩::r) i k rs K sl st nx:=by
 refine gK ok.mono ok.plain (v:=v) (us:=[]) (side:=m.kind=kk/\dO kk kx=true) rfl (by rw [HOp.map,hx,hk]) ?_ hg rfl h
 subst hv
 unfold yQ at hm
 cases hf:eH kx ks<;>rw [hf] at hm<;>simp only [Prod.mk.injEq] at hm<;>obtain ⟨rfl,rfl⟩:=hm<;>simp only [az,hf]
theorem qH [ok:Ok C k] (hx:ev sl x=.mref id path) (hu:aA id st=u) (hn:aG u path=.omap m ks cs) (hk:ev sl y=kx) (hg:m.kind=kk/\dO kk kx=true) (hm:mG id path ks cs zz kx=(w,b)) (hv:okV ok' w b=v) (h:G P C all r (i+1) k rs K ((t,v)::sl) st nx):G P C all (⟨some t,.mlook ok' kk zz x y,none⟩::r) i k rs K sl st nx:=by
 refine gK ok.mono ok.plain (v:=v) (us:=[]) (side:=m.kind=kk/\dO kk kx=true) rfl (by rw [HOp.map,hx,hk]) ?_ hg rfl h
 subst hv hu
 unfold mG at hm
 cases hf:eH kx ks<;>rw [hf] at hm<;>simp only [Prod.mk.injEq] at hm<;>obtain ⟨rfl,rfl⟩:=hm<;>simp only [az,hn,hf]
theorem qW [ok:Ok C k] {us:List Upd} {sd:Prop} (hx:ev sl x=.mref id path) (hk:ev sl y=kx) (hy:ev sl z=w) (ht:takeC (fun j=>aA j st) w=(w',us,sd)) (hs:sd) (hu0:Lk.upd (fun j=>aA j st) us id=u) (hn:aG u path=.omap m ks cs) (hg:m.kind=kk/\dO kk kx=true) (hp:rX m ks cs kx w'=T) (hse:dK T u path=v)
  (hu:kR sl st (us++[.kill id path.length]++[.put id v])=(sl',st')) (h:G P C all r (i+1) k rs K sl' st' nx):G P C all (⟨none,.mset kk x y z,none⟩::r) i k rs K sl st nx:=by
 subst hse hp hu0
 refine gK ok.mono ok.plain (v:=.dead) (us:=us++[.kill id path.length]++[.put id (dK (rX m ks cs kx w') (Lk.upd (fun j=>aA j st) us id) path)]) (side:=sd/\m.kind=kk/\dO kk kx=true) rfl (by rw [HOp.map,hx,hk,hy]) ?_ ⟨hs,hg⟩ (by rw [hu];rfl) h
 simp only [az,ht,hn]
theorem nN [ok:Ok C k] {n:Nat} (hx:ev sl x=.rmap m ks cs) (hn:ks.length=n) (h:G P C all r (i+1) k rs K ((t,.int .i64 (n:Int))::sl) st nx):G P C all (⟨some t,.mlen x,none⟩::r) i k rs K sl st nx:=by
 subst hn
 exact gK ok.mono ok.plain (v:=.int .i64 ks.length) (us:=[]) (side:=True) rfl (by rw [HOp.map,hx]) rfl trivial rfl h
theorem Qn [ok:Ok C k] (hx:ev sl x=.nilm) (h:G P C all r (i+1) k rs K ((t,.bool (!b))::sl) st nx):G P C all (⟨some t,.mnil b x,none⟩::r) i k rs K sl st nx :=
 gK ok.mono ok.plain (v:=.bool (!b)) (us:=[]) (side:=True) rfl (by rw [HOp.map,hx]) rfl trivial rfl h
theorem O9 [ok:Ok C k] (hx:ev sl x=.mref id path) (hu:aA id st=u) (hn:aG u path=.omap m ks cs) (h:G P C all r (i+1) k rs K ((t,.bool b)::sl) st nx):G P C all (⟨some t,.mnil b x,none⟩::r) i k rs K sl st nx:=by
 subst hu
 exact gK ok.mono ok.plain (v:=.bool b) (us:=[]) (side:=True) rfl (by rw [HOp.map,hx]) (by simp only [az,hn]) trivial rfl h
theorem Tz [ok:Ok (HS P) k] {fr:Nat} (hf:nx+stride*i=fr) (hx:ev sl x=.mref id path) (hu:aA id st=u) (hn:aG u path=.omap m ks cs)
  (h:∀k0 bs ck,bs.length=ks.length->bs.Nodup->(∀b∈bs,b<ck)->G P (HS P) all r (i+1) k rs K ((t,.mref fr [])::sl) ((fr,.oitr (k0+1) ck [] ck)::(id,dK (.omap ⟨m.kind,some (k0,bs,ck)⟩ ks cs) u path)::st) nx):G P (HS P) all (⟨some t,.mrng x,none⟩::r) i k rs K sl st nx:=by
 subst hf hu
 refine mZ (LW (s:=⟨sl,st,nx⟩) hx hn fun k0 bs ck h1 h2 h3=>?_)
 refine ja ok.mono ok.plain ?_ (h k0 bs ck h1 h2 h3)
 refine ⟨?_,?_,rfl⟩
 ·funext j;simp only [St.S,St.put,St.upd,aA,gW]
 ·funext j;simp only [St.M,St.put,St.upd,aA,gW]
theorem OE [ok:Ok (HS P) k] {fr:Nat} (hf:nx+stride*i=fr) (hx:ev sl x=.nilm) (h:G P (HS P) all r (i+1) k rs K ((t,.mref fr [])::sl) ((fr,.oitr 0 0 [] 0)::st) nx):G P (HS P) all (⟨some t,.mrng x,none⟩::r) i k rs K sl st nx:=by
 subst hf
 refine mZ (Jo (s:=⟨sl,st,nx⟩) hx ?_)
 refine ja ok.mono ok.plain ?_ h
 refine ⟨?_,?_,rfl⟩
 ·funext j;simp only [St.S,St.put,St.upd,aA,gW]
 ·funext j;simp only [St.M,St.put,St.upd,aA,gW]
theorem TG [ok:Ok (HS P) k] {iid k0 since last ck:Nat} {seen bs:List Nat} {kd:KK} (hx:ev sl x=.mref iid []) (hit:aA iid st=.oitr (k0+1) since seen last) (hu:aA id st=u) (hp:path.length<=2) (hn:aG u path=.omap ⟨kd,some (k0,bs,ck)⟩ ks cs) (hold:∀b∈bs,b<since) (hsc:since<=last)
  (hdone:(∀b∈bs,b∈seen)->G P (HS P) all r (i+1) k rs K ((t,.tup [.bool false])::sl) st nx)
  (hmore:∀j,j<ks.length->j<cs.length->bs.getD j 0 ∉ seen->G P (HS P) all r (i+1) k rs K ((t,.tup [.bool true,ks.getD j .dead,look id path j (cs.getD j .dead)])::sl) ((iid,.oitr (k0+1) since (seen++[bs.getD j 0]) ck)::st) nx):G P (HS P) all (⟨some t,.mnxt x,none⟩::r) i k rs K sl st nx:=by
 subst hu
 refine mZ (MH (s:=⟨sl,st,nx⟩) hx hit hp hn hold hsc (fun hd=>?_) fun j h1 h2 h3=>?_)
 ·refine ja ok.mono ok.plain ?_ (hdone hd)
  refine ⟨?_,?_,rfl⟩
  ·funext j;simp only [St.S,St.put,aA,gW]
  ·rfl
 ·refine ja ok.mono ok.plain ?_ (hmore j h1 h2 h3)
  refine ⟨?_,?_,rfl⟩
  ·funext j;simp only [St.S,St.put,St.upd,aA,gW]
  ·funext j;simp only [St.M,St.put,St.upd,aA,gW]
theorem PH [ok:Ok (HS P) k] {iid since last:Nat} {seen:List Nat} (hx:ev sl x=.mref iid []) (hit:aA iid st=.oitr 0 since seen last) (h:G P (HS P) all r (i+1) k rs K ((t,.tup [.bool false])::sl) st nx):G P (HS P) all (⟨some t,.mnxt x,none⟩::r) i k rs K sl st nx:=by
 refine mZ (Ip (s:=⟨sl,st,nx⟩) hx hit ?_)
 refine ja ok.mono ok.plain ?_ h
 refine ⟨?_,rfl,rfl⟩
 funext j;simp only [St.S,St.put,aA,gW]
theorem RN [ok:Ok (HS P) k] {iid k0 since ck j:Nat} {seen bs:List Nat} {kd:KK} (hx:ev sl x=.mref iid []) (hit:aA iid st=.oitr (k0+1) since (seen++[bs.getD j 0]) ck) (hu:aA id st=u) (hp:path.length<=2) (hn:aG u path=.omap ⟨kd,some (k0,bs,ck)⟩ ks cs) (hj:j<ks.length)
  (hv:HV.tup [ks.getD j .dead,look id path j (cs.getD j .dead)]=v) (h:G P (HS P) all r (i+1) k rs K ((t,v)::sl) st nx):G P (HS P) all (⟨some t,.ment x,none⟩::r) i k rs K sl st nx:=by
 subst hu hv
 refine mZ (JK (s:=⟨sl,st,nx⟩) hx hit hp hn hj ?_)
 refine ja ok.mono ok.plain ?_ h
 refine ⟨?_,rfl,rfl⟩
 funext j;simp only [St.S,St.put,aA,gW]
end
theorem dZ {p:Prop} (h:p:=by (try simp only [go_sem,reduceIte,Nat.reduceEqDiff,Nat.reduceAdd,Nat.reduceMul]);try rfl):p:=h
theorem gY {p:Prop} (h:p:=by simp only [unpack,bf,List.append_nil,List.nil_append,List.cons_append,stride,Nat.reduceAdd,Nat.reduceMul,Nat.zero_add];try rfl):p:=h
theorem zT5 {p:Prop} (h:p:=by simp only [aP,takeD,takeC,aA,Lk.upd,if_true,if_false,reduceIte,Nat.reduceEqDiff,List.append_nil,List.nil_append];try rfl):p:=h
theorem zT6 {p:Prop} (h:p:=by first|exact ltT (by omega)|exact ltF (by omega)|rfl):p:=h
theorem RH {p:Prop} (h:p:=by first|trivial|(refine ⟨?_,?_⟩<;>trivial)|(simp only [and_true,true_and];done)):p:=h
theorem sK {p:Prop} (h:p:=by (try simp (disch:=omega) only [aA,go_sem,reduceIte,Nat.reduceEqDiff,Nat.reduceAdd,Nat.reduceMul]);try rfl):p:=h
theorem TL {p:Prop} (h:p:=by (try simp (disch:=omega) only [go_sem,Int.reduceAdd,Int.reduceSub,Int.reduceMul]);try rfl):p:=h
theorem Eo {p:Prop} (h:p:=by simp only [aP,takeD,takeC,aA,Lk.upd,if_true,if_false,reduceIte,Nat.reduceEqDiff,List.append_nil,List.nil_append,List.cons_append];try rfl):p:=h
theorem IC {p:Prop} (h:p:=by simp only [kR,o8,kills,jX,List.zip_cons_cons,List.zip_nil_right,List.map_cons,List.map_nil,HV.kill,lM,List.length_nil,List.length_cons,Nat.reduceEqDiff,Nat.reduceLT,Nat.lt_irrefl,Nat.reduceAdd,if_true,if_false,reduceIte,and_true,true_and,and_false,false_and,and_self,reduceCtorEq,List.append_nil,List.nil_append,List.cons_append];try rfl):p:=h
theorem aJ {p:Prop} (h:p:=by first|exact eI rfl|exact eB rfl|exact eR rfl|exact eS rfl|exact eP rfl|exact eT rfl|exact eA rfl|exact eN rfl|exact eQ rfl|exact eF rfl|exact eD rfl|exact eM rfl|exact eK rfl|exact eV rfl|exact eX rfl|exact eL rfl):p:=h
theorem bJ {p:Prop} (h:p:=by simp only [aX,HV.refFree,eu,HV.noRd,HL.ints_noRd,HL.bools_noRd,Bool.or_true,Bool.true_or,Bool.or_false,Bool.false_or,Bool.and_true,Bool.true_and,Bool.and_self,List.isEmpty_nil,beq_self_eq_true,List.cons_append,List.nil_append]):p:=h
theorem bH {p:Prop} (h:p:=by (try simp only [List.map_cons,List.map_nil]);repeat (first|(apply Vb;· exact aJ)|rfl)):p:=h
theorem dw {p:Prop} (h:p:=by simp (disch:=omega) only [cZ,HV.thaw,bV,aA,aG,if_true,if_false,reduceIte,Nat.reduceEqDiff,stripL,HV.strip,gu,fF,Nat.mul_one,List.cons_append,List.nil_append,List.append_nil,I,Bl,T3,List.getD_cons_zero,List.getD_cons_succ,HL.ints_strip,HL.bools_strip,fP];try rfl):p:=h
theorem aQ {p:Prop} (h:p:=by (try simp only [go_sem]);first|omega|decide):p:=h
theorem aO {p:Prop} (h:p:=by (try simp only [go_sem]);try rfl):p:=h
theorem jk {p:Prop} (h:p:=by simp only [kR,List.cons_append,List.nil_append,List.append_nil,List.map_cons,List.map_nil,HV.kill,lM,List.length_nil,List.length_cons,Nat.reduceEqDiff,Nat.reduceLT,Nat.reduceAdd,if_true,if_false,reduceIte,and_true,true_and,and_false,false_and,and_self,reduceCtorEq,Nat.lt_irrefl];try rfl):p:=h
theorem aaG {p:Prop} (h:p:=by (try simp (disch:=omega) only [go_sem]);try rfl):p:=h
theorem iM {p:Prop} (h:p:=by first|rfl|exact HL.ints_flat _|exact HL.bools_flat _):p:=h
theorem jh {p:Prop} (h:p:=by simp only [fU,takeC,aA,Lk.upd,if_true,if_false,reduceIte,Nat.reduceEqDiff,List.append_nil,List.nil_append,List.cons_append];try rfl):p:=h
theorem bQ {p:Prop} (h:p:=by first|exact eO rfl|exact eW rfl):p:=h
theorem F6 {p:Prop} (h:p:=by (try simp (disch:=omega) only [go_sem,reduceIte,Nat.reduceEqDiff,Nat.reduceAdd,Nat.reduceMul]);try rfl):p:=h
theorem mV {p:Prop} (h:p:=by simp only [Lk.upd,aA,if_true,if_false,reduceIte,Nat.reduceEqDiff,reduceCtorEq];try rfl):p:=h
theorem aaR {p:Prop} (h:p:=by (try simp only [List.map_cons,List.map_nil]);repeat (first|(apply eP1;· exact aJ)|rfl)):p:=h
theorem aa2 {p:Prop} (h:p:=by simp only [jQ,setFrom,cellsOf,List.set_cons_zero,List.set_cons_succ];try rfl):p:=h
theorem bF {p:Prop} (h:p:=by simp only [kR,o8];try rfl):p:=h
theorem lS {p:Prop} (h:p:=by first|trivial|(refine ⟨?_,?_⟩<;>trivial)):p:=h
theorem nC {p:Prop} (h:p:=by first|exact Nat.zero_lt_one|decide):p:=h
theorem aaZ {p:Prop} (h:p:=by first|exact eqT (by omega)|exact eqF (by omega)|rfl):p:=h
theorem lQ {p:Prop} (h:p:=by simp only [takeC,aA,Lk.upd,if_true,if_false,reduceIte,Nat.reduceEqDiff];try rfl):p:=h
theorem jU {p:Prop} (h:p:=by first|exact leT (by omega)|exact leF (by omega)|rfl):p:=h
theorem bC {p:Prop} (h:p:=by kernel_rfl):p:=h
theorem VA {p:Prop} (h:p:=by (try simp (disch:=omega) only [go_sem,reduceIte,Nat.reduceEqDiff,Nat.reduceAdd,Nat.reduceMul]);try omega):p:=h
theorem lF {p:Prop} (h:p:=by first|exact neF (by omega)|exact neT (by omega)|rfl):p:=h
theorem iC {p:Prop} (h:p:=by unfold maxLen;omega):p:=h
theorem kz {p:Prop} (h:p:=by simp [uf,vT,cellV]):p:=h
theorem aaQ {p:Prop} (h:p:=by simp [rO]):p:=h
theorem iH {p:Prop} (h:p:=by simp only;omega):p:=h
end Go.HL
end
