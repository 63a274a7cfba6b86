import Derived.Test.YtlbdmpjnmfmnfaaR01
set_option linter.unusedSimpArgs false
set_option linter.unusedVariables false
namespace Go.HL
open Go.RowKit
def Ku (own:FuncId->Bool) (masks:List Nat) (all:List HOper) (i:Nat) (o:HOper) (W R:List Nat) (log:l7):Bool :=
 log.all fun q=>rq masks q.1 i || rq masks i q.1 || (match all[q.1]? with|some o'=>!wW own o' o|none=>true) || (W.all (fun x=>!q.2.2.contains x)&&q.2.1.all (fun x=>!R.contains x))
theorem QQ {own:FuncId->Bool} {masks:List Nat} {all:List HOper} {i:Nat} {o:HOper} {us:List Upd} {v:HV} {S:Lk} {log:l7} (h:Ku own masks all i o (vP o S us) (qH o S) log=true):∀q∈log,chk own masks all i o (v,us) S q:=by
 intro q hq b1 b2 o' ho' hs
 have:=zl016.1 h q hq
 rw [b1,b2,ho'] at this
 simp only [hs,Bool.not_true,Bool.or_self,vY,aZ,zl016,zu,List.contains_eq_mem,decide_eq_false_iff_not] at this
 exact ⟨this.1,this.2⟩
structure SH where
 res:HV->Prop
 us:List Upd
 side:Prop
 ok:HV->Prop
def EF (P:Program) (D:DS) (M:Lk):HOp HV->Option SH
 | .call f xs=>some (if D.own f=true then ⟨D.rel f (aB M xs).1,(aB M xs).2.1,(aB M xs).2.2/\HTM P f (aB M xs).1 (D.rel f (aB M xs).1),fun _=>True⟩
   else ⟨D.rel f (cZ bM M xs),[],HT P f (cZ bM M xs) (D.rel f (cZ bM M xs)),fun r=>(aO xs || r.noRd)=true⟩)
 | .callv (.fn f cap) xs=>some ⟨D.rel f (cZ bM M (xs++cap)),[],HT P f (cZ bM M (xs++cap)) (D.rel f (cZ bM M (xs++cap))),fun r=>(aO (xs++cap) || r.noRd)=true⟩
 | _=>none
def xY (P:Program) (D:DS) (masks:List Nat) (all:List HOper):List HOper->Nat->l7->(St->Prop)->St->Prop
 | [],_,_,K,s=>K s
 | o::r,i,log,K,s=>o.guard=none/\((o.op.isCall=false/\(ah s.M (s.nx+stride*i) (o.op.map (bU s.S))).2.2 /\
   Ku D.own masks all i o (vP o s.S (ah s.M (s.nx+stride*i) (o.op.map (bU s.S))).2.1) (qH o s.S) log=true /\
   xY P D masks all r (i+1) ((i,vP o s.S (ah s.M (s.nx+stride*i) (o.op.map (bU s.S))).2.1,qH o s.S)::log) K ((s.upd (ah s.M (s.nx+stride*i) (o.op.map (bU s.S))).2.1).put o.dst (ah s.M (s.nx+stride*i) (o.op.map (bU s.S))).1)) \/
   ∃c,EF P D s.M (o.op.map (bU s.S))=some c/\c.side/\(∃v,c.res v/\v.deep=[])/\∀v,c.res v->v.deep=[]->c.ok v/\(unpack (s.nx+stride*i) v).2.2<=s.nx+stride*i+stride /\
    Ku D.own masks all i o (vP o s.S (c.us++(unpack (s.nx+stride*i) v).2.1)) (qH o s.S) log=true /\
    xY P D masks all r (i+1) ((i,vP o s.S (c.us++(unpack (s.nx+stride*i) v).2.1),qH o s.S)::log) K ((s.upd (c.us++(unpack (s.nx+stride*i) v).2.1)).put o.dst (unpack (s.nx+stride*i) v).1))
theorem Qu {P:Program} {D:DS} {M:Lk} {op:HOp HV} {c:SH} {fr:Nat} (h:EF P D M op=some c) (hs:c.side) (hb:∀v,c.res v->v.deep=[]->c.ok v/\(unpack fr v).2.2<=fr+stride):kT (HT2 P) D M fr op:=by
 cases op<;>simp only [EF] at h<;>(try (cases h;done))
 case call f xs =>
  simp only [kT]
  by_cases ho:D.own f=true
  ·rw [if_pos ho] at h ⊢
   obtain rfl:=ET h
   exact ⟨hs.1,hs.2,fun r a b=>(hb r a b).2⟩
  ·rw [if_neg ho] at h ⊢
   obtain rfl:=ET h
   exact ⟨hs,fun r a b=>hb r a b⟩
 case callv x xs =>
  cases x<;>simp only at h<;>(first|(cases h;done)|cases h)
  exact ⟨hs,fun r a b=>hb r a b⟩
theorem TY {P:Program} {D:DS} {M:Lk} {op:HOp HV} {c:SH} {fr:Nat} {e:HV×List Upd} (h:EF P D M op=some c):nY D M fr e op <-> ∃r,c.res r/\r.deep=[]/\e=((unpack fr r).1,c.us++(unpack fr r).2.1):=by
 cases op<;>simp only [EF] at h<;>(try (cases h;done))
 case call f xs =>
  simp only [nY]
  by_cases ho:D.own f=true
  ·rw [if_pos ho] at h ⊢
   obtain rfl:=ET h
   exact Iff.rfl
  ·rw [if_neg ho] at h ⊢
   obtain rfl:=ET h
   simp only [List.nil_append]
 case callv x xs =>
  cases x<;>simp only at h<;>(first|(cases h;done)|cases h)
  simp only [nY,List.nil_append]
theorem VN {P:Program} {D:DS} {ops:List HOper} {masks:List Nat} {nx:Nat} {K:St->Prop}:∀ (rest:List HOper) (i:Nat) (log:l7) (s:St),ops.drop i=rest->s.nx=nx->xY P D masks ops rest i log K s ->
  dr (HT2 P) D ops masks nx (fun S M=>∃s':St,s'.S=S/\s'.M=M/\s'.nx=nx/\K s') (List.range' i rest.length) log s.S s.M:=by
 intro rest
 induction rest with
 | nil=>intro i log s _ hnx h;exact ⟨s,rfl,rfl,hnx,h⟩
 | cons o rest ih =>
  intro i log s hdrop hnx h
  have hoi:ops[i]?=some o:=by
   have:=congrArg (fun l:List HOper=>l[0]?) hdrop
   simpa using this
  have hdrop':ops.drop (i+1)=rest:=by
   have:=congrArg (List.drop 1) hdrop
   simpa [sV,lK] using this
  simp only [List.length_cons,GR]
  have stepS:∀ (us:List Upd) (v:HV),((s.upd us).put o.dst v).S=nZ o (v,us) s.S:=fun us v=>by rw [St.put_S,St.upd_S];rfl
  have stepM:∀ (us:List Upd) (v:HV),((s.upd us).put o.dst v).M=yE (v,us) s.M:=fun us v=>by rw [St.put_M,St.upd_M];rfl
  have next:∀ (us:List Upd) (v:HV) ent,xY P D masks ops rest (i+1) (ent::log) K ((s.upd us).put o.dst v)->dr (HT2 P) D ops masks nx (fun S M=>∃s':St,s'.S=S/\s'.M=M/\s'.nx=nx/\K s') (List.range' (i+1) rest.length) (ent::log) (nZ o (v,us) s.S) (yE (v,us) s.M):=by
   intro us v ent h'
   have:=ih (i+1) (ent::log) ((s.upd us).put o.dst v) hdrop' (by rw [St.put_nx,St.upd_nx];exact hnx) h'
   rw [stepS,stepM] at this
   exact this
  obtain ⟨hg,h⟩:=h
  rw [hnx] at h
  refine ⟨o,hoi,?_⟩
  have hgd:gd ops o s.S=some true:=by unfold gd;rw [hg]
  unfold eH iG
  rw [hgd]
  simp only
  rcases h with ⟨h1,h2,h3,h4⟩|⟨c,hc,hs,⟨v0,hv0,hd0⟩,h4⟩
  ·have nc:∀f xs,o.op.map (bU s.S)≠.call f xs:=fun f xs e=>by
    obtain ⟨d,op,g⟩:=o
    cases op<;>simp [HOp.map,HOp.isCall] at e h1
   have nv:∀f cap xs,o.op.map (bU s.S)≠.callv (.fn f cap) xs:=fun f cap xs e=>by
    obtain ⟨d,op,g⟩:=o
    cases op<;>simp [HOp.map,HOp.isCall] at e h1
   have e1:kT (HT2 P) D s.M (nx+stride*i) (o.op.map (bU s.S))=(ah s.M (nx+stride*i) (o.op.map (bU s.S))).2.2:=by
    unfold kT;split
    ·rename_i f xs heq;exact absurd heq (nc f xs)
    ·rename_i f cap xs heq;exact absurd heq (nv f cap xs)
    ·rfl
   have e2:∀e,nY D s.M (nx+stride*i) e (o.op.map (bU s.S))=(e=((ah s.M (nx+stride*i) (o.op.map (bU s.S))).1,(ah s.M (nx+stride*i) (o.op.map (bU s.S))).2.1)):=fun e=>by
    unfold nY;split
    ·rename_i f xs heq;exact absurd heq (nc f xs)
    ·rename_i f cap xs heq;exact absurd heq (nv f cap xs)
    ·rfl
   rw [e1]
   simp only [e2]
   refine ⟨h2,⟨_,rfl⟩,?_⟩
   rintro e rfl
   exact ⟨QQ h3,next _ _ _ h4⟩
  ·simp only [TY hc]
   refine ⟨Qu hc hs fun v a b=>⟨(h4 v a b).1,(h4 v a b).2.1⟩,⟨_,v0,hv0,hd0,rfl⟩,?_⟩
   rintro e ⟨v,hv,hd,rfl⟩
   obtain ⟨_,_,k1,k2⟩:=h4 v hv hd
   exact ⟨QQ k1,next _ _ _ k2⟩
theorem JH {P:Program} {D:DS} {masks:List Nat} {all:List HOper} {K:St->Prop} (hK:∀s s',Eqv s s'->K s->K s'):∀ {r:List HOper} {i:Nat} {log:l7} {s s':St},Eqv s s'->xY P D masks all r i log K s->xY P D masks all r i log K s':=by
 intro r
 induction r with
 | nil=>intro i log s s' he h;exact hK _ _ he h
 | cons o r ih =>
  intro i log s s' he h
  simp only [xY] at h ⊢
  obtain ⟨e1,e2,e3⟩:=he
  rw [<- e1,<- e2,<- e3]
  refine ⟨h.1,?_⟩
  rcases h.2 with ⟨h1,h2,h3,h4⟩|⟨c,hc,hs,hv,h4⟩
  ·exact .inl ⟨h1,h2,h3,ih (Eqv.upd ⟨e1,e2,e3⟩ _ _ _) h4⟩
  ·exact .inr ⟨c,hc,hs,hv,fun v a b=>⟨(h4 v a b).1,(h4 v a b).2.1,(h4 v a b).2.2.1,ih (Eqv.upd ⟨e1,e2,e3⟩ _ _ _) (h4 v a b).2.2.2⟩⟩
def GO (P:Program) (D:DS) (masks:List Nat) (all r:List HOper) (i:Nat) (log:l7) (k:List HI) (rs:List Nat) (K:HV->Prop) (sl st:List (Nat×HV)) (nx:Nat):Prop :=
 xY P D masks all r i log (fun s1=>hk P k (finish rs K) .normal { s1 with nx:=s1.nx+stride*all.length }) ⟨sl,st,nx⟩
section
variable {P:Program} {D:DS} {masks:List Nat} {all r:List HOper} {i:Nat} {log:l7} {k:List HI} {rs:List Nat} {K:HV->Prop} {sl st sl' st':List (Nat×HV)} {nx:Nat}
theorem WS {ops:List HOper} (D:DS) (h1:lQ masks ops=true) (h:GO P D masks ops ops 0 [] k rs K sl st nx):hx P (.c (.region (some masks) ops)::k) (finish rs K) ⟨sl,st,nx⟩:=by
 refine Ri (Weak.refl _) ?_
 refine ⟨h1,fun _=>.inl ⟨D,?_⟩⟩
 have:=VN (P:=P) (D:=D) (masks:=masks) ops 0 [] ⟨sl,st,nx⟩ rfl rfl h
 rw [GI]
 exact this
theorem acu {n2:Nat} (hn:nx+stride*all.length=n2) (h:hx P k (finish rs K) ⟨sl,st,n2⟩):GO P D masks all [] i log k rs K sl st nx:=by
 subst hn
 unfold GO xY
 unfold hx at h
 exact h
theorem Y4 {d:Option Nat} {op:HOp HX} {op':HOp HV} [hp:Plain k] (v:HV) (us:List Upd) {side:Prop} {W R:List Nat} (hnc:op.isCall=false) (ho:op.map (ev sl)=op') (h0:ah (fun j=>au j st) (nx+stride*i) op'=(v,us,side)) (hs:side)
  (hw:vP ⟨d,op,none⟩ (fun t=>au t sl) us=W) (hr:qH ⟨d,op,none⟩ (fun t=>au t sl)=R) (hc:Ku D.own masks all i ⟨d,op,none⟩ W R log=true) (hu:Ae d v (tV sl st us)=(sl',st')) (h:GO P D masks all r (i+1) ((i,W,R)::log) k rs K sl' st' nx):GO P D masks all (⟨d,op,none⟩::r) i log k rs K sl st nx:=by
 subst ho hw hr
 have e0:bU (St.S ⟨sl,st,nx⟩)=ev sl:=by rw [<- jd]
 have e:ah (St.M ⟨sl,st,nx⟩) (nx+stride*i) (op.map (bU (St.S ⟨sl,st,nx⟩)))=(v,us,side):=by rw [e0];exact h0
 have key:∀ (K0:St->Prop),(∀s s',Eqv s s'->K0 s->K0 s')->xY P D masks all r (i+1) ((i,vP ⟨d,op,none⟩ (fun t=>au t sl) us,qH ⟨d,op,none⟩ (fun t=>au t sl))::log) K0 ⟨sl',st',nx⟩->xY P D masks all (⟨d,op,none⟩::r) i log K0 ⟨sl,st,nx⟩:=by
  intro K0 hK0 hh
  refine ⟨rfl,.inl ⟨hnc,?_,?_,?_⟩⟩
  ·show (ah (St.M ⟨sl,st,nx⟩) (nx+stride*i) (op.map (bU (St.S ⟨sl,st,nx⟩)))).2.2
   rw [e];exact hs
  ·show Ku D.own masks all i ⟨d,op,none⟩ (vP ⟨d,op,none⟩ (fun t=>au t sl) (ah (St.M ⟨sl,st,nx⟩) (nx+stride*i) (op.map (bU (St.S ⟨sl,st,nx⟩)))).2.1) (qH ⟨d,op,none⟩ (fun t=>au t sl)) log=true
   rw [e];exact hc
  ·show xY P D masks all r (i+1) ((i,vP ⟨d,op,none⟩ (fun t=>au t sl) (ah (St.M ⟨sl,st,nx⟩) (nx+stride*i) (op.map (bU (St.S ⟨sl,st,nx⟩)))).2.1,qH ⟨d,op,none⟩ (fun t=>au t sl))::log) K0 ((St.upd ⟨sl,st,nx⟩ (ah (St.M ⟨sl,st,nx⟩) (nx+stride*i) (op.map (bU (St.S ⟨sl,st,nx⟩)))).2.1).put d (ah (St.M ⟨sl,st,nx⟩) (nx+stride*i) (op.map (bU (St.S ⟨sl,st,nx⟩)))).1)
   rw [e]
   exact JH hK0 (mW hu) hh
 exact key _ (fun a b hab hh=>KH hp.plain (s:={ a with nx:=a.nx+stride*all.length }) (s':={ b with nx:=b.nx+stride*all.length }) ⟨hab.1,hab.2.1,congrArg (fun n=>n+stride*all.length) hab.2.2⟩ hh) h
theorem EG {t:Nat} {op:HOp HX} [hp:Plain k] (v:HV) (R:List Nat) {side:Prop} (hnc:op.isCall=false) (h0:ah (fun j=>au j st) (nx+stride*i) (op.map (ev sl))=(v,[],side)) (hs:side)
  (hr:qH ⟨some t,op,none⟩ (fun t=>au t sl)=R) (hc:Ku D.own masks all i ⟨some t,op,none⟩ [] R log=true) (h:GO P D masks all r (i+1) ((i,[],R)::log) k rs K ((t,v)::sl) st nx):GO P D masks all (⟨some t,op,none⟩::r) i log k rs K sl st nx :=
 Y4 v [] hnc rfl h0 hs rfl hr hc rfl h
theorem Zl {d:Option Nat} {op:HOp HX} {op':HOp HV} {c:SH} {R:List Nat} [hp:Plain k] (ho:op.map (ev sl)=op') (hcr:EF P D (fun j=>au j st) op'=some c) (hs:c.side) (hex:∃v,c.res v/\v.deep=[]) (hr:qH ⟨d,op,none⟩ (fun t=>au t sl)=R)
  (h:∀v,c.res v->v.deep=[]->c.ok v/\∃v' us n2 W sl' st',unpack (nx+stride*i) v=(v',us,n2)/\n2<=nx+stride*i+stride/\vP ⟨d,op,none⟩ (fun t=>au t sl) (c.us++us)=W/\Ku D.own masks all i ⟨d,op,none⟩ W R log=true/\Ae d v' (tV sl st (c.us++us))=(sl',st')/\GO P D masks all r (i+1) ((i,W,R)::log) k rs K sl' st' nx) :
  GO P D masks all (⟨d,op,none⟩::r) i log k rs K sl st nx:=by
 subst ho hr
 have e0:bU (St.S ⟨sl,st,nx⟩)=ev sl:=by rw [<- jd]
 have hp':=hp.plain
 refine ⟨rfl,.inr ⟨c,?_,hs,hex,fun v hv hd=>?_⟩⟩
 ·show EF P D (St.M ⟨sl,st,nx⟩) (op.map (bU (St.S ⟨sl,st,nx⟩)))=some c
  rw [e0];exact hcr
 ·obtain ⟨h1,v',us,n2,W,sl',st',h2,h3,h4,h5,h6,h7⟩:=h v hv hd
  subst h4
  show c.ok v/\(unpack (nx+stride*i) v).2.2<=nx+stride*i+stride/\Ku D.own masks all i ⟨d,op,none⟩ (vP ⟨d,op,none⟩ (fun t=>au t sl) (c.us++(unpack (nx+stride*i) v).2.1)) (qH ⟨d,op,none⟩ (fun t=>au t sl)) log=true/\_
  rw [h2]
  exact ⟨h1,h3,h5,JH (fun a b hab hh=>KH hp' (s:={ a with nx:=a.nx+stride*all.length }) (s':={ b with nx:=b.nx+stride*all.length }) ⟨hab.1,hab.2.1,congrArg (fun n=>n+stride*all.length) hab.2.2⟩ hh) (mW h6) h7⟩
theorem abg {d:Option Nat} {f:FuncId} {xs:List HX} {vs args:List HV} {R:List Nat} [hp:Plain k] (hown:D.own f=false) (hvs:xs.map (ev sl)=vs) (ha:cZ bM (fun j=>au j st) vs=args) (hC:HT P f args (D.rel f args)) (hex:∃v,D.rel f args v/\v.deep=[]) (hr:qH ⟨d,.call f xs,none⟩ (fun t=>au t sl)=R)
  (h:∀v,D.rel f args v->v.deep=[]->(aO vs || v.noRd)=true/\∃v' us n2 W sl' st',unpack (nx+stride*i) v=(v',us,n2)/\n2<=nx+stride*i+stride/\vP ⟨d,.call f xs,none⟩ (fun t=>au t sl) us=W/\Ku D.own masks all i ⟨d,.call f xs,none⟩ W R log=true/\Ae d v' (tV sl st us)=(sl',st')/\GO P D masks all r (i+1) ((i,W,R)::log) k rs K sl' st' nx) :
  GO P D masks all (⟨d,.call f xs,none⟩::r) i log k rs K sl st nx:=by
 subst hvs ha
 refine Zl (c:=⟨D.rel f (cZ bM (fun j=>au j st) (xs.map (ev sl))),[],HT P f (cZ bM (fun j=>au j st) (xs.map (ev sl))) (D.rel f (cZ bM (fun j=>au j st) (xs.map (ev sl)))),fun r=>(aO (xs.map (ev sl)) || r.noRd)=true⟩) rfl ?_ hC hex hr fun v a b=>h v a b
 simp only [HOp.map,EF]
 rw [if_neg (by rw [hown];exact Bool.false_ne_true)]
end
end Go.HL
