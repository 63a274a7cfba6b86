import Derived.Test.YtlbdmpjnmfmnfaaHlLg
set_option linter.unusedSimpArgs false
set_option linter.unusedVariables false
namespace Go.HL
open Go.RowKit
def xH (own:FuncId->Bool) (masks:List Nat) (all:List aB) (i:Nat) (o:aB) (W R:List Nat) (log:jL):Bool :=
 log.all fun q=>oQ masks q.1 i || oQ masks i q.1 || (match all[q.1]? with|some o'=>!oD own o' o|none=>true) || (W.all (fun x=>!q.2.2.contains x)&&q.2.1.all (fun x=>!R.contains x))
theorem GH {own:FuncId->Bool} {masks:List Nat} {all:List aB} {i:Nat} {o:aB} {us:List Upd} {v:HV} {S:Lk} {log:jL} (h:xH own masks all i o (nR o S us) (kW o S) log=true):∀q∈log,chk own masks all i o (v,us) S q:=by
 intro q hq b1 b2 o' ho' hs
 have:=List.all_eq_true.1 h q hq
 rw [b1,b2,ho'] at this
 simp only [hs,Bool.not_true,Bool.or_self,Bool.false_or,Bool.and_eq_true,List.all_eq_true,Bool.not_eq_true',List.contains_eq_mem,decide_eq_false_iff_not] at this
 exact ⟨this.1,this.2⟩
structure He where
 res:HV->Prop
 us:List Upd
 side:Prop
 ok:HV->Prop
def sG (P:Program) (D:DS) (M:Lk):HOp HV->Option He
 | .call f xs=>some (if D.own f=true then ⟨D.rel f (aP M xs).1,(aP M xs).2.1,(aP M xs).2.2/\HTM P f (aP M xs).1 (D.rel f (aP M xs).1),fun _=>True⟩
   else ⟨D.rel f (cZ bV M xs),[],HT P f (cZ bV M xs) (D.rel f (cZ bV M xs)),fun r=>(aX xs || r.noRd)=true⟩)
 | .callv (.fn f cap) xs=>some ⟨D.rel f (cZ bV M (xs++cap)),[],HT P f (cZ bV M (xs++cap)) (D.rel f (cZ bV M (xs++cap))),fun r=>(aX (xs++cap) || r.noRd)=true⟩
 | _=>none
def pK (P:Program) (D:DS) (masks:List Nat) (all:List aB):List aB->Nat->jL->(St->Prop)->St->Prop
 | [],_,_,K,s=>K s
 | o::r,i,log,K,s=>o.guard=none/\((o.op.isCall=false/\(az s.M (s.nx+stride*i) (o.op.map (dA s.S))).2.2 /\
   xH D.own masks all i o (nR o s.S (az s.M (s.nx+stride*i) (o.op.map (dA s.S))).2.1) (kW o s.S) log=true /\
   pK P D masks all r (i+1) ((i,nR o s.S (az s.M (s.nx+stride*i) (o.op.map (dA s.S))).2.1,kW o s.S)::log) K ((s.upd (az s.M (s.nx+stride*i) (o.op.map (dA s.S))).2.1).put o.dst (az s.M (s.nx+stride*i) (o.op.map (dA s.S))).1)) \/
   ∃c,sG P D s.M (o.op.map (dA s.S))=some c/\c.side/\(∃v,c.res v/\v.deep=[])/\∀v,c.res v->v.deep=[]->c.ok v/\(unpack (s.nx+stride*i) v).2.2<=s.nx+stride*i+stride /\
    xH D.own masks all i o (nR o s.S (c.us++(unpack (s.nx+stride*i) v).2.1)) (kW o s.S) log=true /\
    pK P D masks all r (i+1) ((i,nR o s.S (c.us++(unpack (s.nx+stride*i) v).2.1),kW o s.S)::log) K ((s.upd (c.us++(unpack (s.nx+stride*i) v).2.1)).put o.dst (unpack (s.nx+stride*i) v).1))
theorem Ef {P:Program} {D:DS} {M:Lk} {op:HOp HV} {c:He} {fr:Nat} (h:sG P D M op=some c) (hs:c.side) (hb:∀v,c.res v->v.deep=[]->c.ok v/\(unpack fr v).2.2<=fr+stride):jg (HT2 P) D M fr op:=by
 cases op<;>simp only [sG] at h<;>(try (cases h;done))
 case call f xs =>
  simp only [jg]
  by_cases ho:D.own f=true
  ·rw [if_pos ho] at h ⊢
   obtain rfl:=Option.some.inj h
   exact ⟨hs.1,hs.2,fun r a b=>(hb r a b).2⟩
  ·rw [if_neg ho] at h ⊢
   obtain rfl:=Option.some.inj h
   exact ⟨hs,fun r a b=>hb r a b⟩
 case callv x xs =>
  cases x<;>simp only at h<;>(first|(cases h;done)|cases h)
  exact ⟨hs,fun r a b=>hb r a b⟩
theorem IP {P:Program} {D:DS} {M:Lk} {op:HOp HV} {c:He} {fr:Nat} {e:HV×List Upd} (h:sG P D M op=some c):ku D M fr e op <-> ∃r,c.res r/\r.deep=[]/\e=((unpack fr r).1,c.us++(unpack fr r).2.1):=by
 cases op<;>simp only [sG] at h<;>(try (cases h;done))
 case call f xs =>
  simp only [ku]
  by_cases ho:D.own f=true
  ·rw [if_pos ho] at h ⊢
   obtain rfl:=Option.some.inj h
   exact Iff.rfl
  ·rw [if_neg ho] at h ⊢
   obtain rfl:=Option.some.inj h
   simp only [List.nil_append]
 case callv x xs =>
  cases x<;>simp only at h<;>(first|(cases h;done)|cases h)
  simp only [ku,List.nil_append]
theorem JW {P:Program} {D:DS} {ops:List aB} {masks:List Nat} {nx:Nat} {K:St->Prop}:∀ (rest:List aB) (i:Nat) (log:jL) (s:St),ops.drop i=rest->s.nx=nx->pK P D masks ops rest i log K s ->
  dr (HT2 P) D ops masks nx (fun S M=>∃s':St,s'.S=S/\s'.M=M/\s'.nx=nx/\K s') (List.range' i rest.length) log s.S s.M:=by
 intro rest
 induction rest with
 | nil=>intro i log s _ hnx h;exact ⟨s,rfl,rfl,hnx,h⟩
 | cons o rest ih =>
  intro i log s hdrop hnx h
  have hoi:ops[i]?=some o:=by
   have:=congrArg (fun l:List aB=>l[0]?) hdrop
   simpa using this
  have hdrop':ops.drop (i+1)=rest:=by
   have:=congrArg (List.drop 1) hdrop
   simpa [List.drop_drop,Nat.add_comm] using this
  simp only [List.length_cons,List.range'_succ]
  have stepS:∀ (us:List Upd) (v:HV),((s.upd us).put o.dst v).S=jZ o (v,us) s.S:=fun us v=>by rw [St.put_S,St.upd_S];rfl
  have stepM:∀ (us:List Upd) (v:HV),((s.upd us).put o.dst v).M=pV (v,us) s.M:=fun us v=>by rw [St.put_M,St.upd_M];rfl
  have next:∀ (us:List Upd) (v:HV) ent,pK P D masks ops rest (i+1) (ent::log) K ((s.upd us).put o.dst v)->dr (HT2 P) D ops masks nx (fun S M=>∃s':St,s'.S=S/\s'.M=M/\s'.nx=nx/\K s') (List.range' (i+1) rest.length) (ent::log) (jZ o (v,us) s.S) (pV (v,us) s.M):=by
   intro us v ent h'
   have:=ih (i+1) (ent::log) ((s.upd us).put o.dst v) hdrop' (by rw [St.put_nx,St.upd_nx];exact hnx) h'
   rw [stepS,stepM] at this
   exact this
  obtain ⟨hg,h⟩:=h
  rw [hnx] at h
  refine ⟨o,hoi,?_⟩
  have hgd:gd ops o s.S=some true:=by unfold gd;rw [hg]
  unfold fO iy
  rw [hgd]
  simp only
  rcases h with ⟨h1,h2,h3,h4⟩|⟨c,hc,hs,⟨v0,hv0,hd0⟩,h4⟩
  ·have nc:∀f xs,o.op.map (dA s.S)≠.call f xs:=fun f xs e=>by
    obtain ⟨d,op,g⟩:=o
    cases op<;>simp [HOp.map,HOp.isCall] at e h1
   have nv:∀f cap xs,o.op.map (dA s.S)≠.callv (.fn f cap) xs:=fun f cap xs e=>by
    obtain ⟨d,op,g⟩:=o
    cases op<;>simp [HOp.map,HOp.isCall] at e h1
   have e1:jg (HT2 P) D s.M (nx+stride*i) (o.op.map (dA s.S))=(az s.M (nx+stride*i) (o.op.map (dA s.S))).2.2:=by
    unfold jg;split
    ·rename_i f xs heq;exact absurd heq (nc f xs)
    ·rename_i f cap xs heq;exact absurd heq (nv f cap xs)
    ·rfl
   have e2:∀e,ku D s.M (nx+stride*i) e (o.op.map (dA s.S))=(e=((az s.M (nx+stride*i) (o.op.map (dA s.S))).1,(az s.M (nx+stride*i) (o.op.map (dA s.S))).2.1)):=fun e=>by
    unfold ku;split
    ·rename_i f xs heq;exact absurd heq (nc f xs)
    ·rename_i f cap xs heq;exact absurd heq (nv f cap xs)
    ·rfl
   rw [e1]
   simp only [e2]
   refine ⟨h2,⟨_,rfl⟩,?_⟩
   rintro e rfl
   exact ⟨GH h3,next _ _ _ h4⟩
  ·simp only [IP hc]
   refine ⟨Ef hc hs fun v a b=>⟨(h4 v a b).1,(h4 v a b).2.1⟩,⟨_,v0,hv0,hd0,rfl⟩,?_⟩
   rintro e ⟨v,hv,hd,rfl⟩
   obtain ⟨_,_,k1,k2⟩:=h4 v hv hd
   exact ⟨GH k1,next _ _ _ k2⟩
theorem zL {P:Program} {D:DS} {masks:List Nat} {all:List aB} {K:St->Prop} (hK:∀s s',Eqv s s'->K s->K s'):∀ {r:List aB} {i:Nat} {log:jL} {s s':St},Eqv s s'->pK P D masks all r i log K s->pK P D masks all r i log K s':=by
 intro r
 induction r with
 | nil=>intro i log s s' he h;exact hK _ _ he h
 | cons o r ih =>
  intro i log s s' he h
  simp only [pK] at h ⊢
  obtain ⟨e1,e2,e3⟩:=he
  rw [<- e1,<- e2,<- e3]
  refine ⟨h.1,?_⟩
  rcases h.2 with ⟨h1,h2,h3,h4⟩|⟨c,hc,hs,hv,h4⟩
  ·exact .inl ⟨h1,h2,h3,ih (Eqv.upd ⟨e1,e2,e3⟩ _ _ _) h4⟩
  ·exact .inr ⟨c,hc,hs,hv,fun v a b=>⟨(h4 v a b).1,(h4 v a b).2.1,(h4 v a b).2.2.1,ih (Eqv.upd ⟨e1,e2,e3⟩ _ _ _) (h4 v a b).2.2.2⟩⟩
def GO (P:Program) (D:DS) (masks:List Nat) (all r:List aB) (i:Nat) (log:jL) (k:List HI) (rs:List Nat) (K:HV->Prop) (sl st:List (Nat×HV)) (nx:Nat):Prop :=
 pK P D masks all r i log (fun s1=>hk P k (finish rs K) .normal { s1 with nx:=s1.nx+stride*all.length }) ⟨sl,st,nx⟩
section
variable {P:Program} {D:DS} {masks:List Nat} {all r:List aB} {i:Nat} {log:jL} {k:List HI} {rs:List Nat} {K:HV->Prop} {sl st sl' st':List (Nat×HV)} {nx:Nat}
theorem xN {ops:List aB} (D:DS) (h1:mD masks ops=true) (h:GO P D masks ops ops 0 [] k rs K sl st nx):hx P (.c (.region (some masks) ops)::k) (finish rs K) ⟨sl,st,nx⟩:=by
 refine Nq (Weak.refl _) ?_
 refine ⟨h1,fun _=>.inl ⟨D,?_⟩⟩
 have:=JW (P:=P) (D:=D) (masks:=masks) ops 0 [] ⟨sl,st,nx⟩ rfl rfl h
 rw [List.range_eq_range']
 exact this
theorem MZ {n2:Nat} (hn:nx+stride*all.length=n2) (h:hx P k (finish rs K) ⟨sl,st,n2⟩):GO P D masks all [] i log k rs K sl st nx:=by
 subst hn
 unfold GO pK
 unfold hx at h
 exact h
theorem Hz {d:Option Nat} {op:HOp HX} {op':HOp HV} [hp:Plain k] (v:HV) (us:List Upd) {side:Prop} {W R:List Nat} (hnc:op.isCall=false) (ho:op.map (ev sl)=op') (h0:az (fun j=>aA j st) (nx+stride*i) op'=(v,us,side)) (hs:side)
  (hw:nR ⟨d,op,none⟩ (fun t=>aA t sl) us=W) (hr:kW ⟨d,op,none⟩ (fun t=>aA t sl)=R) (hc:xH D.own masks all i ⟨d,op,none⟩ W R log=true) (hu:o8 d v (kR sl st us)=(sl',st')) (h:GO P D masks all r (i+1) ((i,W,R)::log) k rs K sl' st' nx):GO P D masks all (⟨d,op,none⟩::r) i log k rs K sl st nx:=by
 subst ho hw hr
 have e0:dA (St.S ⟨sl,st,nx⟩)=ev sl:=by rw [<- iq]
 have e:az (St.M ⟨sl,st,nx⟩) (nx+stride*i) (op.map (dA (St.S ⟨sl,st,nx⟩)))=(v,us,side):=by rw [e0];exact h0
 have key:∀ (K0:St->Prop),(∀s s',Eqv s s'->K0 s->K0 s')->pK P D masks all r (i+1) ((i,nR ⟨d,op,none⟩ (fun t=>aA t sl) us,kW ⟨d,op,none⟩ (fun t=>aA t sl))::log) K0 ⟨sl',st',nx⟩->pK P D masks all (⟨d,op,none⟩::r) i log K0 ⟨sl,st,nx⟩:=by
  intro K0 hK0 hh
  refine ⟨rfl,.inl ⟨hnc,?_,?_,?_⟩⟩
  ·show (az (St.M ⟨sl,st,nx⟩) (nx+stride*i) (op.map (dA (St.S ⟨sl,st,nx⟩)))).2.2
   rw [e];exact hs
  ·show xH D.own masks all i ⟨d,op,none⟩ (nR ⟨d,op,none⟩ (fun t=>aA t sl) (az (St.M ⟨sl,st,nx⟩) (nx+stride*i) (op.map (dA (St.S ⟨sl,st,nx⟩)))).2.1) (kW ⟨d,op,none⟩ (fun t=>aA t sl)) log=true
   rw [e];exact hc
  ·show pK P D masks all r (i+1) ((i,nR ⟨d,op,none⟩ (fun t=>aA t sl) (az (St.M ⟨sl,st,nx⟩) (nx+stride*i) (op.map (dA (St.S ⟨sl,st,nx⟩)))).2.1,kW ⟨d,op,none⟩ (fun t=>aA t sl))::log) K0 ((St.upd ⟨sl,st,nx⟩ (az (St.M ⟨sl,st,nx⟩) (nx+stride*i) (op.map (dA (St.S ⟨sl,st,nx⟩)))).2.1).put d (az (St.M ⟨sl,st,nx⟩) (nx+stride*i) (op.map (dA (St.S ⟨sl,st,nx⟩)))).1)
   rw [e]
   exact zL hK0 (jO hu) hh
 exact key _ (fun a b hab hh=>Aa hp.plain (s:={ a with nx:=a.nx+stride*all.length }) (s':={ b with nx:=b.nx+stride*all.length }) ⟨hab.1,hab.2.1,congrArg (fun n=>n+stride*all.length) hab.2.2⟩ hh) h
theorem jy {t:Nat} {op:HOp HX} [hp:Plain k] (v:HV) (R:List Nat) {side:Prop} (hnc:op.isCall=false) (h0:az (fun j=>aA j st) (nx+stride*i) (op.map (ev sl))=(v,[],side)) (hs:side)
  (hr:kW ⟨some t,op,none⟩ (fun t=>aA t sl)=R) (hc:xH D.own masks all i ⟨some t,op,none⟩ [] R log=true) (h:GO P D masks all r (i+1) ((i,[],R)::log) k rs K ((t,v)::sl) st nx):GO P D masks all (⟨some t,op,none⟩::r) i log k rs K sl st nx :=
 Hz v [] hnc rfl h0 hs rfl hr hc rfl h
theorem Be {d:Option Nat} {op:HOp HX} {op':HOp HV} {c:He} {R:List Nat} [hp:Plain k] (ho:op.map (ev sl)=op') (hcr:sG P D (fun j=>aA j st) op'=some c) (hs:c.side) (hex:∃v,c.res v/\v.deep=[]) (hr:kW ⟨d,op,none⟩ (fun t=>aA t sl)=R)
  (h:∀v,c.res v->v.deep=[]->c.ok v/\∃v' us n2 W sl' st',unpack (nx+stride*i) v=(v',us,n2)/\n2<=nx+stride*i+stride/\nR ⟨d,op,none⟩ (fun t=>aA t sl) (c.us++us)=W/\xH D.own masks all i ⟨d,op,none⟩ W R log=true/\o8 d v' (kR sl st (c.us++us))=(sl',st')/\GO P D masks all r (i+1) ((i,W,R)::log) k rs K sl' st' nx) :
  GO P D masks all (⟨d,op,none⟩::r) i log k rs K sl st nx:=by
 subst ho hr
 have e0:dA (St.S ⟨sl,st,nx⟩)=ev sl:=by rw [<- iq]
 have hp':=hp.plain
 refine ⟨rfl,.inr ⟨c,?_,hs,hex,fun v hv hd=>?_⟩⟩
 ·show sG P D (St.M ⟨sl,st,nx⟩) (op.map (dA (St.S ⟨sl,st,nx⟩)))=some c
  rw [e0];exact hcr
 ·obtain ⟨h1,v',us,n2,W,sl',st',h2,h3,h4,h5,h6,h7⟩:=h v hv hd
  subst h4
  show c.ok v/\(unpack (nx+stride*i) v).2.2<=nx+stride*i+stride/\xH D.own masks all i ⟨d,op,none⟩ (nR ⟨d,op,none⟩ (fun t=>aA t sl) (c.us++(unpack (nx+stride*i) v).2.1)) (kW ⟨d,op,none⟩ (fun t=>aA t sl)) log=true/\_
  rw [h2]
  exact ⟨h1,h3,h5,zL (fun a b hab hh=>Aa hp' (s:={ a with nx:=a.nx+stride*all.length }) (s':={ b with nx:=b.nx+stride*all.length }) ⟨hab.1,hab.2.1,congrArg (fun n=>n+stride*all.length) hab.2.2⟩ hh) (jO h6) h7⟩
theorem F5 {d:Option Nat} {f:FuncId} {xs:List HX} {vs args:List HV} {ut:List Upd} {side:Prop} {R:List Nat} [hp:Plain k] (hown:D.own f=true) (hvs:xs.map (ev sl)=vs) (ht:aP (fun j=>aA j st) vs=(args,ut,side)) (hs:side) (hC:HTM P f args (D.rel f args)) (hex:∃v,D.rel f args v/\v.deep=[]) (hr:kW ⟨d,.call f xs,none⟩ (fun t=>aA t sl)=R)
  (h:∀v,D.rel f args v->v.deep=[]->∃v' us n2 W sl' st',unpack (nx+stride*i) v=(v',us,n2)/\n2<=nx+stride*i+stride/\nR ⟨d,.call f xs,none⟩ (fun t=>aA t sl) (ut++us)=W/\xH D.own masks all i ⟨d,.call f xs,none⟩ W R log=true/\o8 d v' (kR sl st (ut++us))=(sl',st')/\GO P D masks all r (i+1) ((i,W,R)::log) k rs K sl' st' nx) :
  GO P D masks all (⟨d,.call f xs,none⟩::r) i log k rs K sl st nx:=by
 subst hvs
 refine Be (c:=⟨D.rel f args,ut,side/\HTM P f args (D.rel f args),fun _=>True⟩) rfl ?_ ⟨hs,hC⟩ hex hr fun v a b=>⟨trivial,h v a b⟩
 simp only [HOp.map,sG]
 rw [if_pos hown,ht]
theorem uP {d:Option Nat} {f:FuncId} {xs:List HX} {vs args:List HV} {R:List Nat} [hp:Plain k] (hown:D.own f=false) (hvs:xs.map (ev sl)=vs) (ha:cZ bV (fun j=>aA j st) vs=args) (hC:HT P f args (D.rel f args)) (hex:∃v,D.rel f args v/\v.deep=[]) (hr:kW ⟨d,.call f xs,none⟩ (fun t=>aA t sl)=R)
  (h:∀v,D.rel f args v->v.deep=[]->(aX vs || v.noRd)=true/\∃v' us n2 W sl' st',unpack (nx+stride*i) v=(v',us,n2)/\n2<=nx+stride*i+stride/\nR ⟨d,.call f xs,none⟩ (fun t=>aA t sl) us=W/\xH D.own masks all i ⟨d,.call f xs,none⟩ W R log=true/\o8 d v' (kR sl st us)=(sl',st')/\GO P D masks all r (i+1) ((i,W,R)::log) k rs K sl' st' nx) :
  GO P D masks all (⟨d,.call f xs,none⟩::r) i log k rs K sl st nx:=by
 subst hvs ha
 refine Be (c:=⟨D.rel f (cZ bV (fun j=>aA j st) (xs.map (ev sl))),[],HT P f (cZ bV (fun j=>aA j st) (xs.map (ev sl))) (D.rel f (cZ bV (fun j=>aA j st) (xs.map (ev sl)))),fun r=>(aX (xs.map (ev sl)) || r.noRd)=true⟩) rfl ?_ hC hex hr fun v a b=>h v a b
 simp only [HOp.map,sG]
 rw [if_neg (by rw [hown];exact Bool.false_ne_true)]
theorem G6 {d:Option Nat} {f:FuncId} {x:HX} {xs:List HX} {cap vs args:List HV} {R:List Nat} [hp:Plain k] (hf:ev sl x=.fn f cap) (hvs:xs.map (ev sl)=vs) (ha:cZ bV (fun j=>aA j st) (vs++cap)=args) (hC:HT P f args (D.rel f args)) (hex:∃v,D.rel f args v/\v.deep=[]) (hr:kW ⟨d,.callv x xs,none⟩ (fun t=>aA t sl)=R)
  (h:∀v,D.rel f args v->v.deep=[]->(aX (vs++cap) || v.noRd)=true/\∃v' us n2 W sl' st',unpack (nx+stride*i) v=(v',us,n2)/\n2<=nx+stride*i+stride/\nR ⟨d,.callv x xs,none⟩ (fun t=>aA t sl) us=W/\xH D.own masks all i ⟨d,.callv x xs,none⟩ W R log=true/\o8 d v' (kR sl st us)=(sl',st')/\GO P D masks all r (i+1) ((i,W,R)::log) k rs K sl' st' nx) :
  GO P D masks all (⟨d,.callv x xs,none⟩::r) i log k rs K sl st nx:=by
 subst hvs ha
 refine Be (c:=⟨D.rel f (cZ bV (fun j=>aA j st) (xs.map (ev sl)++cap)),[],HT P f (cZ bV (fun j=>aA j st) (xs.map (ev sl)++cap)) (D.rel f (cZ bV (fun j=>aA j st) (xs.map (ev sl)++cap))),fun r=>(aX (xs.map (ev sl)++cap) || r.noRd)=true⟩) rfl ?_ hC hex hr fun v a b=>h v a b
 simp only [HOp.map,hf,sG]
theorem HTM.nil0 {P:Program} {f:FuncId} {r:List HV} {sz:Nat} {K:HV->Prop} (h:HTM P f (.osl sz 0 []::r) K):HTM P f (.nils::r) K :=
 ⟨h.1,fun w rargs F fa h1 h2 h3 h4=>h.2 w rargs F fa h1 (by
  cases h2 with
  | leaf a b c d e f g o=>exact g.elim
  | nils o=>exact .osl0 o) h3 h4⟩
end
end Go.HL
