import Derived.Test.YtlbdmpjnmfmnfaaHlLg
set_option linter.unusedSimpArgs false
set_option linter.unusedVariables false
namespace Go.HL
open Go.RowKit
def yg (own:FuncId->Bool) (masks:List Nat) (all:List aH) (i:Nat) (o:aH) (W R:List Nat) (log:kz):Bool :=
 log.all fun q=>pz masks q.1 i || pz masks i q.1 || (match all[q.1]? with|some o'=>!o8 own o' o|none=>true) || (W.all (fun x=>!q.2.2.contains x)&&q.2.1.all (fun x=>!R.contains x))
theorem JI {own:FuncId->Bool} {masks:List Nat} {all:List aH} {i:Nat} {o:aH} {us:List Upd} {v:HV} {S:Lk} {log:kz} (h:yg own masks all i o (ou o S us) (lT o S) log=true):∀q∈log,chk own masks all i o (v,us) S q:=by
 intro q hq b1 b2 o' ho' hs
 have:=List.all_eq_true.1 h q hq
 rw [b1,b2,ho'] at this
 simp only [hs,Bool.not_true,Bool.or_self,Bool.false_or,Bool.and_eq_true,List.all_eq_true,Bool.not_eq_true',List.contains_eq_mem,decide_eq_false_iff_not] at this
 exact ⟨this.1,this.2⟩
structure JG where
 res:HV->Prop
 us:List Upd
 side:Prop
 ok:HV->Prop
def um (P:Program) (D:DS) (M:Lk):HOp HV->Option JG
 | .call f xs=>some (if D.own f=true then ⟨D.rel f (aX M xs).1,(aX M xs).2.1,(aX M xs).2.2/\HTM P f (aX M xs).1 (D.rel f (aX M xs).1),fun _=>True⟩
   else ⟨D.rel f (dI dA M xs),[],HT P f (dI dA M xs) (D.rel f (dI dA M xs)),fun r=>(bD xs || r.noRd)=true⟩)
 | .callv (.fn f cap) xs=>some ⟨D.rel f (dI dA M (xs++cap)),[],HT P f (dI dA M (xs++cap)) (D.rel f (dI dA M (xs++cap))),fun r=>(bD (xs++cap) || r.noRd)=true⟩
 | _=>none
def qy (P:Program) (D:DS) (masks:List Nat) (all:List aH):List aH->Nat->kz->(St->Prop)->St->Prop
 | [],_,_,K,s=>K s
 | o::r,i,log,K,s=>o.guard=none/\((o.op.isCall=false/\(aA s.M (s.nx+stride*i) (o.op.map (dL s.S))).2.2 /\
   yg D.own masks all i o (ou o s.S (aA s.M (s.nx+stride*i) (o.op.map (dL s.S))).2.1) (lT o s.S) log=true /\
   qy P D masks all r (i+1) ((i,ou o s.S (aA s.M (s.nx+stride*i) (o.op.map (dL s.S))).2.1,lT o s.S)::log) K ((s.upd (aA s.M (s.nx+stride*i) (o.op.map (dL s.S))).2.1).put o.dst (aA s.M (s.nx+stride*i) (o.op.map (dL s.S))).1)) \/
   ∃c,um P D s.M (o.op.map (dL s.S))=some c/\c.side/\(∃v,c.res v/\v.deep=[])/\∀v,c.res v->v.deep=[]->c.ok v/\(unpack (s.nx+stride*i) v).2.2<=s.nx+stride*i+stride /\
    yg D.own masks all i o (ou o s.S (c.us++(unpack (s.nx+stride*i) v).2.1)) (lT o s.S) log=true /\
    qy P D masks all r (i+1) ((i,ou o s.S (c.us++(unpack (s.nx+stride*i) v).2.1),lT o s.S)::log) K ((s.upd (c.us++(unpack (s.nx+stride*i) v).2.1)).put o.dst (unpack (s.nx+stride*i) v).1))
theorem Gg {P:Program} {D:DS} {M:Lk} {op:HOp HV} {c:JG} {fr:Nat} (h:um P D M op=some c) (hs:c.side) (hb:∀v,c.res v->v.deep=[]->c.ok v/\(unpack fr v).2.2<=fr+stride):jQ (HT2 P) D M fr op:=by
 cases op<;>simp only [um] at h<;>(try (cases h;done))
 case call f xs =>
  simp only [jQ]
  by_cases ho:D.own f=true
  ·rw [if_pos ho] at h ⊢
   obtain rfl:=Option.some.inj h
   exact ⟨hs.1,hs.2,fun r a b=>(hb r a b).2⟩
  ·rw [if_neg ho] at h ⊢
   obtain rfl:=Option.some.inj h
   exact ⟨hs,fun r a b=>hb r a b⟩
 case callv x xs =>
  cases x<;>simp only at h<;>(first|(cases h;done)|cases h)
  exact ⟨hs,fun r a b=>hb r a b⟩
theorem LV {P:Program} {D:DS} {M:Lk} {op:HOp HV} {c:JG} {fr:Nat} {e:HV×List Upd} (h:um P D M op=some c):kV D M fr e op <-> ∃r,c.res r/\r.deep=[]/\e=((unpack fr r).1,c.us++(unpack fr r).2.1):=by
 cases op<;>simp only [um] at h<;>(try (cases h;done))
 case call f xs =>
  simp only [kV]
  by_cases ho:D.own f=true
  ·rw [if_pos ho] at h ⊢
   obtain rfl:=Option.some.inj h
   exact Iff.rfl
  ·rw [if_neg ho] at h ⊢
   obtain rfl:=Option.some.inj h
   simp only [List.nil_append]
 case callv x xs =>
  cases x<;>simp only at h<;>(first|(cases h;done)|cases h)
  simp only [kV,List.nil_append]
theorem OI {P:Program} {D:DS} {ops:List aH} {masks:List Nat} {nx:Nat} {K:St->Prop}:∀ (rest:List aH) (i:Nat) (log:kz) (s:St),ops.drop i=rest->s.nx=nx->qy P D masks ops rest i log K s ->
  dr (HT2 P) D ops masks nx (fun S M=>∃s':St,s'.S=S/\s'.M=M/\s'.nx=nx/\K s') (List.range' i rest.length) log s.S s.M:=by
 intro rest
 induction rest with
 | nil=>intro i log s _ hnx h;exact ⟨s,rfl,rfl,hnx,h⟩
 | cons o rest ih =>
  intro i log s hdrop hnx h
  have hoi:ops[i]?=some o:=by
   have:=congrArg (fun l:List aH=>l[0]?) hdrop
   simpa using this
  have hdrop':ops.drop (i+1)=rest:=by
   have:=congrArg (List.drop 1) hdrop
   simpa [List.drop_drop,Nat.add_comm] using this
  simp only [List.length_cons,List.range'_succ]
  have stepS:∀ (us:List Upd) (v:HV),((s.upd us).put o.dst v).S=kW o (v,us) s.S:=fun us v=>by rw [St.put_S,St.upd_S];rfl
  have stepM:∀ (us:List Upd) (v:HV),((s.upd us).put o.dst v).M=qF (v,us) s.M:=fun us v=>by rw [St.put_M,St.upd_M];rfl
  have next:∀ (us:List Upd) (v:HV) ent,qy P D masks ops rest (i+1) (ent::log) K ((s.upd us).put o.dst v)->dr (HT2 P) D ops masks nx (fun S M=>∃s':St,s'.S=S/\s'.M=M/\s'.nx=nx/\K s') (List.range' (i+1) rest.length) (ent::log) (kW o (v,us) s.S) (qF (v,us) s.M):=by
   intro us v ent h'
   have:=ih (i+1) (ent::log) ((s.upd us).put o.dst v) hdrop' (by rw [St.put_nx,St.upd_nx];exact hnx) h'
   rw [stepS,stepM] at this
   exact this
  obtain ⟨hg,h⟩:=h
  rw [hnx] at h
  refine ⟨o,hoi,?_⟩
  have hgd:gd ops o s.S=some true:=by unfold gd;rw [hg]
  unfold gz iP
  rw [hgd]
  simp only
  rcases h with ⟨h1,h2,h3,h4⟩|⟨c,hc,hs,⟨v0,hv0,hd0⟩,h4⟩
  ·have nc:∀f xs,o.op.map (dL s.S)≠.call f xs:=fun f xs e=>by
    obtain ⟨d,op,g⟩:=o
    cases op<;>simp [HOp.map,HOp.isCall] at e h1
   have nv:∀f cap xs,o.op.map (dL s.S)≠.callv (.fn f cap) xs:=fun f cap xs e=>by
    obtain ⟨d,op,g⟩:=o
    cases op<;>simp [HOp.map,HOp.isCall] at e h1
   have e1:jQ (HT2 P) D s.M (nx+stride*i) (o.op.map (dL s.S))=(aA s.M (nx+stride*i) (o.op.map (dL s.S))).2.2:=by
    unfold jQ;split
    ·rename_i f xs heq;exact absurd heq (nc f xs)
    ·rename_i f cap xs heq;exact absurd heq (nv f cap xs)
    ·rfl
   have e2:∀e,kV D s.M (nx+stride*i) e (o.op.map (dL s.S))=(e=((aA s.M (nx+stride*i) (o.op.map (dL s.S))).1,(aA s.M (nx+stride*i) (o.op.map (dL s.S))).2.1)):=fun e=>by
    unfold kV;split
    ·rename_i f xs heq;exact absurd heq (nc f xs)
    ·rename_i f cap xs heq;exact absurd heq (nv f cap xs)
    ·rfl
   rw [e1]
   simp only [e2]
   refine ⟨h2,⟨_,rfl⟩,?_⟩
   rintro e rfl
   exact ⟨JI h3,next _ _ _ h4⟩
  ·simp only [LV hc]
   refine ⟨Gg hc hs fun v a b=>⟨(h4 v a b).1,(h4 v a b).2.1⟩,⟨_,v0,hv0,hd0,rfl⟩,?_⟩
   rintro e ⟨v,hv,hd,rfl⟩
   obtain ⟨_,_,k1,k2⟩:=h4 v hv hd
   exact ⟨JI k1,next _ _ _ k2⟩
theorem Bf {P:Program} {D:DS} {masks:List Nat} {all:List aH} {K:St->Prop} (hK:∀s s',Eqv s s'->K s->K s'):∀ {r:List aH} {i:Nat} {log:kz} {s s':St},Eqv s s'->qy P D masks all r i log K s->qy P D masks all r i log K s':=by
 intro r
 induction r with
 | nil=>intro i log s s' he h;exact hK _ _ he h
 | cons o r ih =>
  intro i log s s' he h
  simp only [qy] at h ⊢
  obtain ⟨e1,e2,e3⟩:=he
  rw [<- e1,<- e2,<- e3]
  refine ⟨h.1,?_⟩
  rcases h.2 with ⟨h1,h2,h3,h4⟩|⟨c,hc,hs,hv,h4⟩
  ·exact .inl ⟨h1,h2,h3,ih (Eqv.upd ⟨e1,e2,e3⟩ _ _ _) h4⟩
  ·exact .inr ⟨c,hc,hs,hv,fun v a b=>⟨(h4 v a b).1,(h4 v a b).2.1,(h4 v a b).2.2.1,ih (Eqv.upd ⟨e1,e2,e3⟩ _ _ _) (h4 v a b).2.2.2⟩⟩
def GO (P:Program) (D:DS) (masks:List Nat) (all r:List aH) (i:Nat) (log:kz) (k:List HI) (rs:List Nat) (K:HV->Prop) (sl st:List (Nat×HV)) (nx:Nat):Prop :=
 qy P D masks all r i log (fun s1=>hk P k (finish rs K) .normal { s1 with nx:=s1.nx+stride*all.length }) ⟨sl,st,nx⟩
section
variable {P:Program} {D:DS} {masks:List Nat} {all r:List aH} {i:Nat} {log:kz} {k:List HI} {rs:List Nat} {K:HV->Prop} {sl st sl' st':List (Nat×HV)} {nx:Nat}
theorem vX {ops:List aH} (D:DS) (h1:lI masks ops=true) (h:GO P D masks ops ops 0 [] k rs K sl st nx):hx P (.c (.region (some masks) ops)::k) (finish rs K) ⟨sl,st,nx⟩:=by
 refine IV (Weak.refl _) ?_
 refine ⟨h1,fun _=>.inl ⟨D,?_⟩⟩
 have:=OI (P:=P) (D:=D) (masks:=masks) ops 0 [] ⟨sl,st,nx⟩ rfl rfl h
 rw [List.range_eq_range']
 exact this
theorem Ja {n2:Nat} (hn:nx+stride*all.length=n2) (h:hx P k (finish rs K) ⟨sl,st,n2⟩):GO P D masks all [] i log k rs K sl st nx:=by
 subst hn
 unfold GO qy
 unfold hx at h
 exact h
theorem FD {d:Option Nat} {op:HOp HX} {op':HOp HV} [hp:Plain k] (v:HV) (us:List Upd) {side:Prop} {W R:List Nat} (hnc:op.isCall=false) (ho:op.map (ev sl)=op') (h0:aA (fun j=>aG j st) (nx+stride*i) op'=(v,us,side)) (hs:side)
  (hw:ou ⟨d,op,none⟩ (fun t=>aG t sl) us=W) (hr:lT ⟨d,op,none⟩ (fun t=>aG t sl)=R) (hc:yg D.own masks all i ⟨d,op,none⟩ W R log=true) (hu:uU d v (nU sl st us)=(sl',st')) (h:GO P D masks all r (i+1) ((i,W,R)::log) k rs K sl' st' nx):GO P D masks all (⟨d,op,none⟩::r) i log k rs K sl st nx:=by
 subst ho hw hr
 have e0:dL (St.S ⟨sl,st,nx⟩)=ev sl:=by rw [<- iM]
 have e:aA (St.M ⟨sl,st,nx⟩) (nx+stride*i) (op.map (dL (St.S ⟨sl,st,nx⟩)))=(v,us,side):=by rw [e0];exact h0
 have key:∀ (K0:St->Prop),(∀s s',Eqv s s'->K0 s->K0 s')->qy P D masks all r (i+1) ((i,ou ⟨d,op,none⟩ (fun t=>aG t sl) us,lT ⟨d,op,none⟩ (fun t=>aG t sl))::log) K0 ⟨sl',st',nx⟩->qy P D masks all (⟨d,op,none⟩::r) i log K0 ⟨sl,st,nx⟩:=by
  intro K0 hK0 hh
  refine ⟨rfl,.inl ⟨hnc,?_,?_,?_⟩⟩
  ·show (aA (St.M ⟨sl,st,nx⟩) (nx+stride*i) (op.map (dL (St.S ⟨sl,st,nx⟩)))).2.2
   rw [e];exact hs
  ·show yg D.own masks all i ⟨d,op,none⟩ (ou ⟨d,op,none⟩ (fun t=>aG t sl) (aA (St.M ⟨sl,st,nx⟩) (nx+stride*i) (op.map (dL (St.S ⟨sl,st,nx⟩)))).2.1) (lT ⟨d,op,none⟩ (fun t=>aG t sl)) log=true
   rw [e];exact hc
  ·show qy P D masks all r (i+1) ((i,ou ⟨d,op,none⟩ (fun t=>aG t sl) (aA (St.M ⟨sl,st,nx⟩) (nx+stride*i) (op.map (dL (St.S ⟨sl,st,nx⟩)))).2.1,lT ⟨d,op,none⟩ (fun t=>aG t sl))::log) K0 ((St.upd ⟨sl,st,nx⟩ (aA (St.M ⟨sl,st,nx⟩) (nx+stride*i) (op.map (dL (St.S ⟨sl,st,nx⟩)))).2.1).put d (aA (St.M ⟨sl,st,nx⟩) (nx+stride*i) (op.map (dL (St.S ⟨sl,st,nx⟩)))).1)
   rw [e]
   exact Bf hK0 (kH hu) hh
 exact key _ (fun a b hab hh=>Du hp.plain (s:={ a with nx:=a.nx+stride*all.length }) (s':={ b with nx:=b.nx+stride*all.length }) ⟨hab.1,hab.2.1,congrArg (fun n=>n+stride*all.length) hab.2.2⟩ hh) h
theorem jJ {t:Nat} {op:HOp HX} [hp:Plain k] (v:HV) (R:List Nat) {side:Prop} (hnc:op.isCall=false) (h0:aA (fun j=>aG j st) (nx+stride*i) (op.map (ev sl))=(v,[],side)) (hs:side)
  (hr:lT ⟨some t,op,none⟩ (fun t=>aG t sl)=R) (hc:yg D.own masks all i ⟨some t,op,none⟩ [] R log=true) (h:GO P D masks all r (i+1) ((i,[],R)::log) k rs K ((t,v)::sl) st nx):GO P D masks all (⟨some t,op,none⟩::r) i log k rs K sl st nx :=
 FD v [] hnc rfl h0 hs rfl hr hc rfl h
theorem Ci {d:Option Nat} {op:HOp HX} {op':HOp HV} {c:JG} {R:List Nat} [hp:Plain k] (ho:op.map (ev sl)=op') (hcr:um P D (fun j=>aG j st) op'=some c) (hs:c.side) (hex:∃v,c.res v/\v.deep=[]) (hr:lT ⟨d,op,none⟩ (fun t=>aG t sl)=R)
  (h:∀v,c.res v->v.deep=[]->c.ok v/\∃v' us n2 W sl' st',unpack (nx+stride*i) v=(v',us,n2)/\n2<=nx+stride*i+stride/\ou ⟨d,op,none⟩ (fun t=>aG t sl) (c.us++us)=W/\yg D.own masks all i ⟨d,op,none⟩ W R log=true/\uU d v' (nU sl st (c.us++us))=(sl',st')/\GO P D masks all r (i+1) ((i,W,R)::log) k rs K sl' st' nx) :
  GO P D masks all (⟨d,op,none⟩::r) i log k rs K sl st nx:=by
 subst ho hr
 have e0:dL (St.S ⟨sl,st,nx⟩)=ev sl:=by rw [<- iM]
 have hp':=hp.plain
 refine ⟨rfl,.inr ⟨c,?_,hs,hex,fun v hv hd=>?_⟩⟩
 ·show um P D (St.M ⟨sl,st,nx⟩) (op.map (dL (St.S ⟨sl,st,nx⟩)))=some c
  rw [e0];exact hcr
 ·obtain ⟨h1,v',us,n2,W,sl',st',h2,h3,h4,h5,h6,h7⟩:=h v hv hd
  subst h4
  show c.ok v/\(unpack (nx+stride*i) v).2.2<=nx+stride*i+stride/\yg D.own masks all i ⟨d,op,none⟩ (ou ⟨d,op,none⟩ (fun t=>aG t sl) (c.us++(unpack (nx+stride*i) v).2.1)) (lT ⟨d,op,none⟩ (fun t=>aG t sl)) log=true/\_
  rw [h2]
  exact ⟨h1,h3,h5,Bf (fun a b hab hh=>Du hp' (s:={ a with nx:=a.nx+stride*all.length }) (s':={ b with nx:=b.nx+stride*all.length }) ⟨hab.1,hab.2.1,congrArg (fun n=>n+stride*all.length) hab.2.2⟩ hh) (kH h6) h7⟩
theorem DF {d:Option Nat} {f:FuncId} {xs:List HX} {vs args:List HV} {ut:List Upd} {side:Prop} {R:List Nat} [hp:Plain k] (hown:D.own f=true) (hvs:xs.map (ev sl)=vs) (ht:aX (fun j=>aG j st) vs=(args,ut,side)) (hs:side) (hC:HTM P f args (D.rel f args)) (hex:∃v,D.rel f args v/\v.deep=[]) (hr:lT ⟨d,.call f xs,none⟩ (fun t=>aG t sl)=R)
  (h:∀v,D.rel f args v->v.deep=[]->∃v' us n2 W sl' st',unpack (nx+stride*i) v=(v',us,n2)/\n2<=nx+stride*i+stride/\ou ⟨d,.call f xs,none⟩ (fun t=>aG t sl) (ut++us)=W/\yg D.own masks all i ⟨d,.call f xs,none⟩ W R log=true/\uU d v' (nU sl st (ut++us))=(sl',st')/\GO P D masks all r (i+1) ((i,W,R)::log) k rs K sl' st' nx) :
  GO P D masks all (⟨d,.call f xs,none⟩::r) i log k rs K sl st nx:=by
 subst hvs
 refine Ci (c:=⟨D.rel f args,ut,side/\HTM P f args (D.rel f args),fun _=>True⟩) rfl ?_ ⟨hs,hC⟩ hex hr fun v a b=>⟨trivial,h v a b⟩
 simp only [HOp.map,um]
 rw [if_pos hown,ht]
theorem rG {d:Option Nat} {f:FuncId} {xs:List HX} {vs args:List HV} {R:List Nat} [hp:Plain k] (hown:D.own f=false) (hvs:xs.map (ev sl)=vs) (ha:dI dA (fun j=>aG j st) vs=args) (hC:HT P f args (D.rel f args)) (hex:∃v,D.rel f args v/\v.deep=[]) (hr:lT ⟨d,.call f xs,none⟩ (fun t=>aG t sl)=R)
  (h:∀v,D.rel f args v->v.deep=[]->(bD vs || v.noRd)=true/\∃v' us n2 W sl' st',unpack (nx+stride*i) v=(v',us,n2)/\n2<=nx+stride*i+stride/\ou ⟨d,.call f xs,none⟩ (fun t=>aG t sl) us=W/\yg D.own masks all i ⟨d,.call f xs,none⟩ W R log=true/\uU d v' (nU sl st us)=(sl',st')/\GO P D masks all r (i+1) ((i,W,R)::log) k rs K sl' st' nx) :
  GO P D masks all (⟨d,.call f xs,none⟩::r) i log k rs K sl st nx:=by
 subst hvs ha
 refine Ci (c:=⟨D.rel f (dI dA (fun j=>aG j st) (xs.map (ev sl))),[],HT P f (dI dA (fun j=>aG j st) (xs.map (ev sl))) (D.rel f (dI dA (fun j=>aG j st) (xs.map (ev sl)))),fun r=>(bD (xs.map (ev sl)) || r.noRd)=true⟩) rfl ?_ hC hex hr fun v a b=>h v a b
 simp only [HOp.map,um]
 rw [if_neg (by rw [hown];exact Bool.false_ne_true)]
theorem Jk {d:Option Nat} {f:FuncId} {x:HX} {xs:List HX} {cap vs args:List HV} {R:List Nat} [hp:Plain k] (hf:ev sl x=.fn f cap) (hvs:xs.map (ev sl)=vs) (ha:dI dA (fun j=>aG j st) (vs++cap)=args) (hC:HT P f args (D.rel f args)) (hex:∃v,D.rel f args v/\v.deep=[]) (hr:lT ⟨d,.callv x xs,none⟩ (fun t=>aG t sl)=R)
  (h:∀v,D.rel f args v->v.deep=[]->(bD (vs++cap) || v.noRd)=true/\∃v' us n2 W sl' st',unpack (nx+stride*i) v=(v',us,n2)/\n2<=nx+stride*i+stride/\ou ⟨d,.callv x xs,none⟩ (fun t=>aG t sl) us=W/\yg D.own masks all i ⟨d,.callv x xs,none⟩ W R log=true/\uU d v' (nU sl st us)=(sl',st')/\GO P D masks all r (i+1) ((i,W,R)::log) k rs K sl' st' nx) :
  GO P D masks all (⟨d,.callv x xs,none⟩::r) i log k rs K sl st nx:=by
 subst hvs ha
 refine Ci (c:=⟨D.rel f (dI dA (fun j=>aG j st) (xs.map (ev sl)++cap)),[],HT P f (dI dA (fun j=>aG j st) (xs.map (ev sl)++cap)) (D.rel f (dI dA (fun j=>aG j st) (xs.map (ev sl)++cap))),fun r=>(bD (xs.map (ev sl)++cap) || r.noRd)=true⟩) rfl ?_ hC hex hr fun v a b=>h v a b
 simp only [HOp.map,hf,um]
theorem HTM.nil0 {P:Program} {f:FuncId} {r:List HV} {sz:Nat} {K:HV->Prop} (h:HTM P f (.osl sz 0 []::r) K):HTM P f (.nils::r) K :=
 ⟨h.1,fun w rargs F fa h1 h2 h3 h4=>h.2 w rargs F fa h1 (by
  cases h2 with
  | leaf a b c d e f g o=>exact g.elim
  | nils o=>exact .osl0 o) h3 h4⟩
end
end Go.HL
