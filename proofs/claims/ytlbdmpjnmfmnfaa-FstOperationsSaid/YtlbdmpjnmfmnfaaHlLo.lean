import Derived.Test.YtlbdmpjnmfmnfaaHlLg
set_option linter.unusedSimpArgs false
set_option linter.unusedVariables false
namespace Go.HL
open Go.RowKit
def Hf (own:FuncId->Bool) (masks:List Nat) (all:List af) (i:Nat) (o:af) (W R:List Nat) (log:nP):Bool :=
 log.all fun q=>wo masks q.1 i || wo masks i q.1 || (match all[q.1]? with|some o'=>!vT own o' o|none=>true) || (W.all (fun x=>!q.2.2.contains x)&&q.2.1.all (fun x=>!R.contains x))
theorem Tj {own:FuncId->Bool} {masks:List Nat} {all:List af} {i:Nat} {o:af} {us:List Upd} {v:HV} {S:Lk} {log:nP} (h:Hf own masks all i o (uK o S us) (lV o S) log=true):∀q∈log,chk own masks all i o (v,us) S q:=by
 intro q hq b1 b2 o' ho' hs
 have:=zl021.1 h q hq
 rw [b1,b2,ho'] at this
 simp only [hs,Bool.not_true,Bool.or_self,kE,bC,zl021,Ap,List.contains_eq_mem,decide_eq_false_iff_not] at this
 exact ⟨this.1,this.2⟩
structure Ry where
 res:HV->Prop
 us:List Upd
 side:Prop
 ok:HV->Prop
def Ae (P:Program) (D:DS) (M:Lk):HOp HV->Option Ry
 | .call f xs=>some (if D.own f=true then ⟨D.rel f (aN M xs).1,(aN M xs).2.1,(aN M xs).2.2/\HTM P f (aN M xs).1 (D.rel f (aN M xs).1),fun _=>True⟩
   else ⟨D.rel f (dM cZ M xs),[],HT P f (dM cZ M xs) (D.rel f (dM cZ M xs)),fun r=>(aJ xs || r.noRd)=true⟩)
 | .callv (.fn f cap) xs=>some ⟨D.rel f (dM cZ M (xs++cap)),[],HT P f (dM cZ M (xs++cap)) (D.rel f (dM cZ M (xs++cap))),fun r=>(aJ (xs++cap) || r.noRd)=true⟩
 | _=>none
def xH (P:Program) (D:DS) (masks:List Nat) (all:List af):List af->Nat->nP->(St->Prop)->St->Prop
 | [],_,_,K,s=>K s
 | o::r,i,log,K,s=>o.guard=none/\((o.op.isCall=false/\(ak s.M (s.nx+stride*i) (o.op.map (bZ s.S))).2.2 /\
   Hf D.own masks all i o (uK o s.S (ak s.M (s.nx+stride*i) (o.op.map (bZ s.S))).2.1) (lV o s.S) log=true /\
   xH P D masks all r (i+1) ((i,uK o s.S (ak s.M (s.nx+stride*i) (o.op.map (bZ s.S))).2.1,lV o s.S)::log) K ((s.upd (ak s.M (s.nx+stride*i) (o.op.map (bZ s.S))).2.1).put o.dst (ak s.M (s.nx+stride*i) (o.op.map (bZ s.S))).1)) \/
   ∃c,Ae P D s.M (o.op.map (bZ s.S))=some c/\c.side/\(∃v,c.res v/\v.deep=[])/\∀v,c.res v->v.deep=[]->c.ok v/\(unpack (s.nx+stride*i) v).2.2<=s.nx+stride*i+stride /\
    Hf D.own masks all i o (uK o s.S (c.us++(unpack (s.nx+stride*i) v).2.1)) (lV o s.S) log=true /\
    xH P D masks all r (i+1) ((i,uK o s.S (c.us++(unpack (s.nx+stride*i) v).2.1),lV o s.S)::log) K ((s.upd (c.us++(unpack (s.nx+stride*i) v).2.1)).put o.dst (unpack (s.nx+stride*i) v).1))
theorem QI {P:Program} {D:DS} {M:Lk} {op:HOp HV} {c:Ry} {fr:Nat} (h:Ae P D M op=some c) (hs:c.side) (hb:∀v,c.res v->v.deep=[]->c.ok v/\(unpack fr v).2.2<=fr+stride):mr (HT2 P) D M fr op:=by
 cases op<;>simp only [Ae] at h<;>(try (cases h;done))
 case call f xs =>
  simp only [mr]
  by_cases ho:D.own f=true
  ·rw [if_pos ho] at h ⊢
   obtain rfl:=F7 h
   exact ⟨hs.1,hs.2,fun r a b=>(hb r a b).2⟩
  ·rw [if_neg ho] at h ⊢
   obtain rfl:=F7 h
   exact ⟨hs,fun r a b=>hb r a b⟩
 case callv x xs =>
  cases x<;>simp only at h<;>(first|(cases h;done)|cases h)
  exact ⟨hs,fun r a b=>hb r a b⟩
theorem UY {P:Program} {D:DS} {M:Lk} {op:HOp HV} {c:Ry} {fr:Nat} {e:HV×List Upd} (h:Ae P D M op=some c):oM D M fr e op <-> ∃r,c.res r/\r.deep=[]/\e=((unpack fr r).1,c.us++(unpack fr r).2.1):=by
 cases op<;>simp only [Ae] at h<;>(try (cases h;done))
 case call f xs =>
  simp only [oM]
  by_cases ho:D.own f=true
  ·rw [if_pos ho] at h ⊢
   obtain rfl:=F7 h
   exact Iff.rfl
  ·rw [if_neg ho] at h ⊢
   obtain rfl:=F7 h
   simp only [List.nil_append]
 case callv x xs =>
  cases x<;>simp only at h<;>(first|(cases h;done)|cases h)
  simp only [oM,List.nil_append]
theorem Wu {P:Program} {D:DS} {ops:List af} {masks:List Nat} {nx:Nat} {K:St->Prop}:∀ (rest:List af) (i:Nat) (log:nP) (s:St),ops.drop i=rest->s.nx=nx->xH P D masks ops rest i log K s ->
  dr (HT2 P) D ops masks nx (fun S M=>∃s':St,s'.S=S/\s'.M=M/\s'.nx=nx/\K s') (List.range' i rest.length) log s.S s.M:=by
 intro rest
 induction rest with
 | nil=>intro i log s _ hnx h;exact ⟨s,rfl,rfl,hnx,h⟩
 | cons o rest ih =>
  intro i log s hdrop hnx h
  have hoi:ops[i]?=some o:=by
   have:=congrArg (fun l:List af=>l[0]?) hdrop
   simpa using this
  have hdrop':ops.drop (i+1)=rest:=by
   have:=congrArg (List.drop 1) hdrop
   simpa [sZ,lT] using this
  simp only [List.length_cons,Hy]
  have stepS:∀ (us:List Upd) (v:HV),((s.upd us).put o.dst v).S=oO o (v,us) s.S:=fun us v=>by rw [St.put_S,St.upd_S];rfl
  have stepM:∀ (us:List Upd) (v:HV),((s.upd us).put o.dst v).M=xN (v,us) s.M:=fun us v=>by rw [St.put_M,St.upd_M];rfl
  have next:∀ (us:List Upd) (v:HV) ent,xH P D masks ops rest (i+1) (ent::log) K ((s.upd us).put o.dst v)->dr (HT2 P) D ops masks nx (fun S M=>∃s':St,s'.S=S/\s'.M=M/\s'.nx=nx/\K s') (List.range' (i+1) rest.length) (ent::log) (oO o (v,us) s.S) (xN (v,us) s.M):=by
   intro us v ent h'
   have:=ih (i+1) (ent::log) ((s.upd us).put o.dst v) hdrop' (by rw [St.put_nx,St.upd_nx];exact hnx) h'
   rw [stepS,stepM] at this
   exact this
  obtain ⟨hg,h⟩:=h
  rw [hnx] at h
  refine ⟨o,hoi,?_⟩
  have hgd:gd ops o s.S=some true:=by unfold gd;rw [hg]
  unfold gm jF
  rw [hgd]
  simp only
  rcases h with ⟨h1,h2,h3,h4⟩|⟨c,hc,hs,⟨v0,hv0,hd0⟩,h4⟩
  ·have nc:∀f xs,o.op.map (bZ s.S)≠.call f xs:=fun f xs e=>by
    obtain ⟨d,op,g⟩:=o
    cases op<;>simp [HOp.map,HOp.isCall] at e h1
   have nv:∀f cap xs,o.op.map (bZ s.S)≠.callv (.fn f cap) xs:=fun f cap xs e=>by
    obtain ⟨d,op,g⟩:=o
    cases op<;>simp [HOp.map,HOp.isCall] at e h1
   have e1:mr (HT2 P) D s.M (nx+stride*i) (o.op.map (bZ s.S))=(ak s.M (nx+stride*i) (o.op.map (bZ s.S))).2.2:=by
    unfold mr;split
    ·rename_i f xs heq;exact absurd heq (nc f xs)
    ·rename_i f cap xs heq;exact absurd heq (nv f cap xs)
    ·rfl
   have e2:∀e,oM D s.M (nx+stride*i) e (o.op.map (bZ s.S))=(e=((ak s.M (nx+stride*i) (o.op.map (bZ s.S))).1,(ak s.M (nx+stride*i) (o.op.map (bZ s.S))).2.1)):=fun e=>by
    unfold oM;split
    ·rename_i f xs heq;exact absurd heq (nc f xs)
    ·rename_i f cap xs heq;exact absurd heq (nv f cap xs)
    ·rfl
   rw [e1]
   simp only [e2]
   refine ⟨h2,⟨_,rfl⟩,?_⟩
   rintro e rfl
   exact ⟨Tj h3,next _ _ _ h4⟩
  ·simp only [UY hc]
   refine ⟨QI hc hs fun v a b=>⟨(h4 v a b).1,(h4 v a b).2.1⟩,⟨_,v0,hv0,hd0,rfl⟩,?_⟩
   rintro e ⟨v,hv,hd,rfl⟩
   obtain ⟨_,_,k1,k2⟩:=h4 v hv hd
   exact ⟨Tj k1,next _ _ _ k2⟩
theorem JV {P:Program} {D:DS} {masks:List Nat} {all:List af} {K:St->Prop} (hK:∀s s',Eqv s s'->K s->K s'):∀ {r:List af} {i:Nat} {log:nP} {s s':St},Eqv s s'->xH P D masks all r i log K s->xH P D masks all r i log K s':=by
 intro r
 induction r with
 | nil=>intro i log s s' he h;exact hK _ _ he h
 | cons o r ih =>
  intro i log s s' he h
  simp only [xH] at h ⊢
  obtain ⟨e1,e2,e3⟩:=he
  rw [<- e1,<- e2,<- e3]
  refine ⟨h.1,?_⟩
  rcases h.2 with ⟨h1,h2,h3,h4⟩|⟨c,hc,hs,hv,h4⟩
  ·exact .inl ⟨h1,h2,h3,ih (Eqv.upd ⟨e1,e2,e3⟩ _ _ _) h4⟩
  ·exact .inr ⟨c,hc,hs,hv,fun v a b=>⟨(h4 v a b).1,(h4 v a b).2.1,(h4 v a b).2.2.1,ih (Eqv.upd ⟨e1,e2,e3⟩ _ _ _) (h4 v a b).2.2.2⟩⟩
def GO (P:Program) (D:DS) (masks:List Nat) (all r:List af) (i:Nat) (log:nP) (k:List HI) (rs:List Nat) (K:HV->Prop) (sl st:List (Nat×HV)) (nx:Nat):Prop :=
 xH P D masks all r i log (fun s1=>hk P k (finish rs K) .normal { s1 with nx:=s1.nx+stride*all.length }) ⟨sl,st,nx⟩
section
variable {P:Program} {D:DS} {masks:List Nat} {all r:List af} {i:Nat} {log:nP} {k:List HI} {rs:List Nat} {K:HV->Prop} {sl st sl' st':List (Nat×HV)} {nx:Nat}
theorem ve {ops:List af} (D:DS) (h1:ql masks ops=true) (h:GO P D masks ops ops 0 [] k rs K sl st nx):hx P (.c (.region (some masks) ops)::k) (finish rs K) ⟨sl,st,nx⟩:=by
 refine TJ (Weak.refl _) ?_
 refine ⟨h1,fun _=>.inl ⟨D,?_⟩⟩
 have:=Wu (P:=P) (D:=D) (masks:=masks) ops 0 [] ⟨sl,st,nx⟩ rfl rfl h
 rw [JP]
 exact this
theorem JA {n2:Nat} (hn:nx+stride*all.length=n2) (h:hx P k (finish rs K) ⟨sl,st,n2⟩):GO P D masks all [] i log k rs K sl st nx:=by
 subst hn
 unfold GO xH
 unfold hx at h
 exact h
theorem Bg {d:Option Nat} {op:HOp HX} {op':HOp HV} [hp:Plain k] (v:HV) (us:List Upd) {side:Prop} {W R:List Nat} (hnc:op.isCall=false) (ho:op.map (ev sl)=op') (h0:ak (fun j=>ax j st) (nx+stride*i) op'=(v,us,side)) (hs:side)
  (hw:uK ⟨d,op,none⟩ (fun t=>ax t sl) us=W) (hr:lV ⟨d,op,none⟩ (fun t=>ax t sl)=R) (hc:Hf D.own masks all i ⟨d,op,none⟩ W R log=true) (hu:Bz d v (uT sl st us)=(sl',st')) (h:GO P D masks all r (i+1) ((i,W,R)::log) k rs K sl' st' nx):GO P D masks all (⟨d,op,none⟩::r) i log k rs K sl st nx:=by
 subst ho hw hr
 have e0:bZ (St.S ⟨sl,st,nx⟩)=ev sl:=by rw [<- jl]
 have e:ak (St.M ⟨sl,st,nx⟩) (nx+stride*i) (op.map (bZ (St.S ⟨sl,st,nx⟩)))=(v,us,side):=by rw [e0];exact h0
 have key:∀ (K0:St->Prop),(∀s s',Eqv s s'->K0 s->K0 s')->xH P D masks all r (i+1) ((i,uK ⟨d,op,none⟩ (fun t=>ax t sl) us,lV ⟨d,op,none⟩ (fun t=>ax t sl))::log) K0 ⟨sl',st',nx⟩->xH P D masks all (⟨d,op,none⟩::r) i log K0 ⟨sl,st,nx⟩:=by
  intro K0 hK0 hh
  refine ⟨rfl,.inl ⟨hnc,?_,?_,?_⟩⟩
  ·show (ak (St.M ⟨sl,st,nx⟩) (nx+stride*i) (op.map (bZ (St.S ⟨sl,st,nx⟩)))).2.2
   rw [e];exact hs
  ·show Hf D.own masks all i ⟨d,op,none⟩ (uK ⟨d,op,none⟩ (fun t=>ax t sl) (ak (St.M ⟨sl,st,nx⟩) (nx+stride*i) (op.map (bZ (St.S ⟨sl,st,nx⟩)))).2.1) (lV ⟨d,op,none⟩ (fun t=>ax t sl)) log=true
   rw [e];exact hc
  ·show xH P D masks all r (i+1) ((i,uK ⟨d,op,none⟩ (fun t=>ax t sl) (ak (St.M ⟨sl,st,nx⟩) (nx+stride*i) (op.map (bZ (St.S ⟨sl,st,nx⟩)))).2.1,lV ⟨d,op,none⟩ (fun t=>ax t sl))::log) K0 ((St.upd ⟨sl,st,nx⟩ (ak (St.M ⟨sl,st,nx⟩) (nx+stride*i) (op.map (bZ (St.S ⟨sl,st,nx⟩)))).2.1).put d (ak (St.M ⟨sl,st,nx⟩) (nx+stride*i) (op.map (bZ (St.S ⟨sl,st,nx⟩)))).1)
   rw [e]
   exact JV hK0 (nV hu) hh
 exact key _ (fun a b hab hh=>LW hp.plain (s:={ a with nx:=a.nx+stride*all.length }) (s':={ b with nx:=b.nx+stride*all.length }) ⟨hab.1,hab.2.1,congrArg (fun n=>n+stride*all.length) hab.2.2⟩ hh) h
theorem dP {t:Nat} {op:HOp HX} [hp:Plain k] (v:HV) (R:List Nat) {side:Prop} (hnc:op.isCall=false) (h0:ak (fun j=>ax j st) (nx+stride*i) (op.map (ev sl))=(v,[],side)) (hs:side)
  (hr:lV ⟨some t,op,none⟩ (fun t=>ax t sl)=R) (hc:Hf D.own masks all i ⟨some t,op,none⟩ [] R log=true) (h:GO P D masks all r (i+1) ((i,[],R)::log) k rs K ((t,v)::sl) st nx):GO P D masks all (⟨some t,op,none⟩::r) i log k rs K sl st nx :=
 Bg v [] hnc rfl h0 hs rfl hr hc rfl h
theorem Lr {d:Option Nat} {op:HOp HX} {op':HOp HV} {c:Ry} {R:List Nat} [hp:Plain k] (ho:op.map (ev sl)=op') (hcr:Ae P D (fun j=>ax j st) op'=some c) (hs:c.side) (hex:∃v,c.res v/\v.deep=[]) (hr:lV ⟨d,op,none⟩ (fun t=>ax t sl)=R)
  (h:∀v,c.res v->v.deep=[]->c.ok v/\∃v' us n2 W sl' st',unpack (nx+stride*i) v=(v',us,n2)/\n2<=nx+stride*i+stride/\uK ⟨d,op,none⟩ (fun t=>ax t sl) (c.us++us)=W/\Hf D.own masks all i ⟨d,op,none⟩ W R log=true/\Bz d v' (uT sl st (c.us++us))=(sl',st')/\GO P D masks all r (i+1) ((i,W,R)::log) k rs K sl' st' nx) :
  GO P D masks all (⟨d,op,none⟩::r) i log k rs K sl st nx:=by
 subst ho hr
 have e0:bZ (St.S ⟨sl,st,nx⟩)=ev sl:=by rw [<- jl]
 have hp':=hp.plain
 refine ⟨rfl,.inr ⟨c,?_,hs,hex,fun v hv hd=>?_⟩⟩
 ·show Ae P D (St.M ⟨sl,st,nx⟩) (op.map (bZ (St.S ⟨sl,st,nx⟩)))=some c
  rw [e0];exact hcr
 ·obtain ⟨h1,v',us,n2,W,sl',st',h2,h3,h4,h5,h6,h7⟩:=h v hv hd
  subst h4
  show c.ok v/\(unpack (nx+stride*i) v).2.2<=nx+stride*i+stride/\Hf D.own masks all i ⟨d,op,none⟩ (uK ⟨d,op,none⟩ (fun t=>ax t sl) (c.us++(unpack (nx+stride*i) v).2.1)) (lV ⟨d,op,none⟩ (fun t=>ax t sl)) log=true/\_
  rw [h2]
  exact ⟨h1,h3,h5,JV (fun a b hab hh=>LW hp' (s:={ a with nx:=a.nx+stride*all.length }) (s':={ b with nx:=b.nx+stride*all.length }) ⟨hab.1,hab.2.1,congrArg (fun n=>n+stride*all.length) hab.2.2⟩ hh) (nV h6) h7⟩
theorem Md {d:Option Nat} {f:FuncId} {xs:List HX} {vs args:List HV} {ut:List Upd} {side:Prop} {R:List Nat} [hp:Plain k] (hown:D.own f=true) (hvs:xs.map (ev sl)=vs) (ht:aN (fun j=>ax j st) vs=(args,ut,side)) (hs:side) (hC:HTM P f args (D.rel f args)) (hex:∃v,D.rel f args v/\v.deep=[]) (hr:lV ⟨d,.call f xs,none⟩ (fun t=>ax t sl)=R)
  (h:∀v,D.rel f args v->v.deep=[]->∃v' us n2 W sl' st',unpack (nx+stride*i) v=(v',us,n2)/\n2<=nx+stride*i+stride/\uK ⟨d,.call f xs,none⟩ (fun t=>ax t sl) (ut++us)=W/\Hf D.own masks all i ⟨d,.call f xs,none⟩ W R log=true/\Bz d v' (uT sl st (ut++us))=(sl',st')/\GO P D masks all r (i+1) ((i,W,R)::log) k rs K sl' st' nx) :
  GO P D masks all (⟨d,.call f xs,none⟩::r) i log k rs K sl st nx:=by
 subst hvs
 refine Lr (c:=⟨D.rel f args,ut,side/\HTM P f args (D.rel f args),fun _=>True⟩) rfl ?_ ⟨hs,hC⟩ hex hr fun v a b=>⟨trivial,h v a b⟩
 simp only [HOp.map,Ae]
 rw [if_pos hown,ht]
theorem tN {d:Option Nat} {f:FuncId} {xs:List HX} {vs args:List HV} {R:List Nat} [hp:Plain k] (hown:D.own f=false) (hvs:xs.map (ev sl)=vs) (ha:dM cZ (fun j=>ax j st) vs=args) (hC:HT P f args (D.rel f args)) (hex:∃v,D.rel f args v/\v.deep=[]) (hr:lV ⟨d,.call f xs,none⟩ (fun t=>ax t sl)=R)
  (h:∀v,D.rel f args v->v.deep=[]->(aJ vs || v.noRd)=true/\∃v' us n2 W sl' st',unpack (nx+stride*i) v=(v',us,n2)/\n2<=nx+stride*i+stride/\uK ⟨d,.call f xs,none⟩ (fun t=>ax t sl) us=W/\Hf D.own masks all i ⟨d,.call f xs,none⟩ W R log=true/\Bz d v' (uT sl st us)=(sl',st')/\GO P D masks all r (i+1) ((i,W,R)::log) k rs K sl' st' nx) :
  GO P D masks all (⟨d,.call f xs,none⟩::r) i log k rs K sl st nx:=by
 subst hvs ha
 refine Lr (c:=⟨D.rel f (dM cZ (fun j=>ax j st) (xs.map (ev sl))),[],HT P f (dM cZ (fun j=>ax j st) (xs.map (ev sl))) (D.rel f (dM cZ (fun j=>ax j st) (xs.map (ev sl)))),fun r=>(aJ (xs.map (ev sl)) || r.noRd)=true⟩) rfl ?_ hC hex hr fun v a b=>h v a b
 simp only [HOp.map,Ae]
 rw [if_neg (by rw [hown];exact Bool.false_ne_true)]
theorem Rz {d:Option Nat} {f:FuncId} {x:HX} {xs:List HX} {cap vs args:List HV} {R:List Nat} [hp:Plain k] (hf:ev sl x=.fn f cap) (hvs:xs.map (ev sl)=vs) (ha:dM cZ (fun j=>ax j st) (vs++cap)=args) (hC:HT P f args (D.rel f args)) (hex:∃v,D.rel f args v/\v.deep=[]) (hr:lV ⟨d,.callv x xs,none⟩ (fun t=>ax t sl)=R)
  (h:∀v,D.rel f args v->v.deep=[]->(aJ (vs++cap) || v.noRd)=true/\∃v' us n2 W sl' st',unpack (nx+stride*i) v=(v',us,n2)/\n2<=nx+stride*i+stride/\uK ⟨d,.callv x xs,none⟩ (fun t=>ax t sl) us=W/\Hf D.own masks all i ⟨d,.callv x xs,none⟩ W R log=true/\Bz d v' (uT sl st us)=(sl',st')/\GO P D masks all r (i+1) ((i,W,R)::log) k rs K sl' st' nx) :
  GO P D masks all (⟨d,.callv x xs,none⟩::r) i log k rs K sl st nx:=by
 subst hvs ha
 refine Lr (c:=⟨D.rel f (dM cZ (fun j=>ax j st) (xs.map (ev sl)++cap)),[],HT P f (dM cZ (fun j=>ax j st) (xs.map (ev sl)++cap)) (D.rel f (dM cZ (fun j=>ax j st) (xs.map (ev sl)++cap))),fun r=>(aJ (xs.map (ev sl)++cap) || r.noRd)=true⟩) rfl ?_ hC hex hr fun v a b=>h v a b
 simp only [HOp.map,hf,Ae]
theorem HTM.nil0 {P:Program} {f:FuncId} {r:List HV} {sz:Nat} {K:HV->Prop} (h:HTM P f (.osl sz 0 []::r) K):HTM P f (.nils::r) K :=
 ⟨h.1,fun w rargs F fa h1 h2 h3 h4=>h.2 w rargs F fa h1 (by
  cases h2 with
  | leaf a b c d e f g o=>exact g.elim
  | nils o=>exact .osl0 o) h3 h4⟩
end
end Go.HL
