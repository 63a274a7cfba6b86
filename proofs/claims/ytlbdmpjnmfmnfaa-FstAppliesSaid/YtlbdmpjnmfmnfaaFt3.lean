import Derived.Test.YtlbdmpjnmfmnfaaHlNv
import Derived.Test.YtlbdmpjnmfmnfaaFt2
import Derived.Test.YtlbdmpjnmfmnfaaFs2
section
set_option linter.unusedSimpArgs false
set_option linter.unusedVariables false
namespace Go.HL
open Go.RowKit
def WW (masks:List Nat) (all:List aU) (i:Nat) (o:aU) (W R:List Nat) (log:lF):Bool :=
 log.all fun q=>o9 masks q.1 i || o9 masks i q.1 || (match all[q.1]? with|some o'=>!tq o' o|none=>true) || (W.all (fun x=>!q.2.2.contains x)&&q.2.1.all (fun x=>!R.contains x))
def x9 (masks:List Nat) (all:List aU):List aU->Nat->lF->(St->Prop)->St->Prop
 | [],_,_,K,s=>K s
 | o::r,i,log,K,s=>o.guard=none/\o.op.isCall=false/\(aP s.M (s.nx+stride*i) (o.op.map (eH s.S))).2.2 /\
   Ap masks all i o (aP s.M (s.nx+stride*i) (o.op.map (eH s.S))).2.1 s.S log=true /\
   x9 masks all r (i+1) ((i,sN o s.S (aP s.M (s.nx+stride*i) (o.op.map (eH s.S))).2.1,oI o s.S)::log) K ((s.upd (aP s.M (s.nx+stride*i) (o.op.map (eH s.S))).2.1).put o.dst (aP s.M (s.nx+stride*i) (o.op.map (eH s.S))).1)
theorem Eu {C:lD} {masks:List Nat} {all:List aU} {K:St->Prop}:∀ {r:List aU} {i:Nat} {log:lF} {s:St},x9 masks all r i log K s->qH C masks all r i log K s:=by
 intro r
 induction r with
 | nil=>intro i log s h;exact h
 | cons o r ih =>
  intro i log s h
  obtain ⟨h1,h2,h3,h4,h5⟩:=h
  simp only [qH]
  rw [h1]
  simp only
  unfold Jz
  have hM:(fun i=>aV i s.st)=s.M:=rfl
  rw [je,hM]
  have nc:∀f xs,o.op.map (eH s.S)≠.call f xs:=fun f xs e=>by
   obtain ⟨d,op,g⟩:=o
   cases op<;>simp [HOp.map,HOp.isCall] at e h2
  have nv:∀f cap xs,o.op.map (eH s.S)≠.callv (.fn f cap) xs:=fun f cap xs e=>by
   obtain ⟨d,op,g⟩:=o
   cases op<;>simp [HOp.map,HOp.isCall] at e h2
  split
  ·rename_i f xs heq;exact absurd heq (nc f xs)
  ·rename_i f cap xs heq;exact absurd heq (nv f cap xs)
  ·exact ⟨h3,h4,ih h5⟩
theorem JS {masks:List Nat} {all:List aU} {K:St->Prop} (hK:∀s s',Eqv s s'->K s->K s'):∀ {r:List aU} {i:Nat} {log:lF} {s s':St},Eqv s s'->x9 masks all r i log K s->x9 masks all r i log K s':=by
 intro r
 induction r with
 | nil=>intro i log s s' he h;exact hK _ _ he h
 | cons o r ih =>
  intro i log s s' he h
  simp only [x9] at h ⊢
  obtain ⟨e1,e2,e3⟩:=he
  rw [<- e1,<- e2,<- e3]
  exact ⟨h.1,h.2.1,h.2.2.1,h.2.2.2.1,ih (Eqv.upd ⟨e1,e2,e3⟩ _ _ _) h.2.2.2.2⟩
def GL (P:Program) (masks:List Nat) (all r:List aU) (i:Nat) (log:lF) (k:List HI) (rs:List Nat) (K:HV->Prop) (sl st:List (Nat×HV)) (nx:Nat):Prop :=
 x9 masks all r i log (fun s1=>hk P k (finish rs K) .normal { s1 with nx:=s1.nx+stride*all.length }) ⟨sl,st,nx⟩
theorem KW {P:Program} {k:List HI} {rs:List Nat} {K:HV->Prop} {sl st:List (Nat×HV)} {nx:Nat} {ops:List aU} {masks:List Nat} (h1:nJ masks ops=true) (h:GL P masks ops ops 0 [] k rs K sl st nx):hx P (.c (.region (some masks) ops)::k) (finish rs K) ⟨sl,st,nx⟩:=by
 refine Py (Weak.refl _) ?_
 refine ⟨h1,fun _=>.inl ⟨fun _ _ _=>False,?_⟩⟩
 have:=LU (P:=P) (D:=fun _ _ _=>False) (masks:=masks) ops 0 [] ⟨sl,st,nx⟩ rfl rfl (Eu h)
 rw [List.range_eq_range']
 exact this
theorem Xe {P:Program} {masks:List Nat} {all:List aU} {i:Nat} {log:lF} {k:List HI} {rs:List Nat} {K:HV->Prop} {sl st:List (Nat×HV)} {nx n2:Nat} (hn:nx+stride*all.length=n2) (h:hx P k (finish rs K) ⟨sl,st,n2⟩):GL P masks all [] i log k rs K sl st nx:=by
 subst hn
 unfold GL x9
 unfold hx at h
 exact h
theorem O4 {P:Program} {masks:List Nat} {all r:List aU} {i:Nat} {log:lF} {k:List HI} {rs:List Nat} {K:HV->Prop} {sl st sl' st':List (Nat×HV)} {nx:Nat} {d:Option Nat} {op:HOp HX} {op':HOp HV} [hp:Plain k] (v:HV) (us:List Upd) {side:Prop} {W R:List Nat} (hnc:op.isCall=false) (ho:op.map (ev sl)=op') (h0:aP (fun j=>aV j st) (nx+stride*i) op'=(v,us,side)) (hs:side)
  (hw:sN ⟨d,op,none⟩ (fun t=>aV t sl) us=W) (hr:oI ⟨d,op,none⟩ (fun t=>aV t sl)=R) (hc:WW masks all i ⟨d,op,none⟩ W R log=true) (hu:Dk d v (rJ sl st us)=(sl',st')) (h:GL P masks all r (i+1) ((i,W,R)::log) k rs K sl' st' nx):GL P masks all (⟨d,op,none⟩::r) i log k rs K sl st nx:=by
 subst ho hw hr
 have e0:eH (St.S ⟨sl,st,nx⟩)=ev sl:=by rw [<- je]
 have e:aP (St.M ⟨sl,st,nx⟩) (nx+stride*i) (op.map (eH (St.S ⟨sl,st,nx⟩)))=(v,us,side):=by rw [e0];exact h0
 have key:∀ (K0:St->Prop),(∀s s',Eqv s s'->K0 s->K0 s')->x9 masks all r (i+1) ((i,sN ⟨d,op,none⟩ (fun t=>aV t sl) us,oI ⟨d,op,none⟩ (fun t=>aV t sl))::log) K0 ⟨sl',st',nx⟩->x9 masks all (⟨d,op,none⟩::r) i log K0 ⟨sl,st,nx⟩:=by
  intro K0 hK0 hh
  refine ⟨rfl,hnc,?_,?_,?_⟩
  ·show (aP (St.M ⟨sl,st,nx⟩) (nx+stride*i) (op.map (eH (St.S ⟨sl,st,nx⟩)))).2.2
   rw [e];exact hs
  ·show Ap masks all i ⟨d,op,none⟩ (aP (St.M ⟨sl,st,nx⟩) (nx+stride*i) (op.map (eH (St.S ⟨sl,st,nx⟩)))).2.1 (fun t=>aV t sl) log=true
   rw [e];exact hc
  ·show x9 masks all r (i+1) ((i,sN ⟨d,op,none⟩ (fun t=>aV t sl) (aP (St.M ⟨sl,st,nx⟩) (nx+stride*i) (op.map (eH (St.S ⟨sl,st,nx⟩)))).2.1,oI ⟨d,op,none⟩ (fun t=>aV t sl))::log) K0 ((St.upd ⟨sl,st,nx⟩ (aP (St.M ⟨sl,st,nx⟩) (nx+stride*i) (op.map (eH (St.S ⟨sl,st,nx⟩)))).2.1).put d (aP (St.M ⟨sl,st,nx⟩) (nx+stride*i) (op.map (eH (St.S ⟨sl,st,nx⟩)))).1)
   rw [e]
   exact JS hK0 (lN hu) hh
 exact key _ (fun a b hab hh=>JB hp.plain (s:={ a with nx:=a.nx+stride*all.length }) (s':={ b with nx:=b.nx+stride*all.length }) ⟨hab.1,hab.2.1,congrArg (fun n=>n+stride*all.length) hab.2.2⟩ hh) h
theorem rH {P:Program} {masks:List Nat} {all r:List aU} {i:Nat} {log:lF} {k:List HI} {rs:List Nat} {K:HV->Prop} {sl st:List (Nat×HV)} {nx t:Nat} {op:HOp HX} [hp:Plain k] (v:HV) (R:List Nat) {side:Prop} (hnc:op.isCall=false) (h0:aP (fun j=>aV j st) (nx+stride*i) (op.map (ev sl))=(v,[],side)) (hs:side)
  (hr:oI ⟨some t,op,none⟩ (fun t=>aV t sl)=R) (hc:WW masks all i ⟨some t,op,none⟩ [] R log=true) (h:GL P masks all r (i+1) ((i,[],R)::log) k rs K ((t,v)::sl) st nx):GL P masks all (⟨some t,op,none⟩::r) i log k rs K sl st nx :=
 O4 v [] hnc rfl h0 hs rfl hr hc rfl h
end Go.HL
end
section
set_option linter.unusedSimpArgs false
set_option linter.unusedVariables false
namespace Go.Proofs.Ytlbdmpjnmfmnfaa
open Go.RowKit Go.HL Go.FS
def idx (n:Nat):List HV:=(List.range n).map fun i:Nat=>.int .i64 i
theorem BZ (n:Nat):dC (idx n)=true:=by simp [idx,dC,gJ]
theorem Ky (n:Nat):idx n++[.int .i64 n]=idx (n+1):=by simp [idx,List.range_succ]
theorem zG {n j:Nat} (h:j<n):(idx n).getD j .dead=.int .i64 j:=by simp [idx,h]
abbrev NR (l:List Nd):HV:=.omap ⟨.ints 2,none⟩ (l.map pk) (idx l.length)
theorem GG {l:List Nd} {p q:Int} (z:HV) (id:Nat) (pa:List Nat) (h:(p,q)∈l):lX id pa (l.map pk) (idx l.length) z (.agg [.int .i64 p,.int .i64 q])=(.int .i64 (Q8 l (p,q)),true):=by
 rw [sK (by simp [idx]) (BZ _),show HV.agg [.int .i64 p,.int .i64 q]=pk (p,q) from rfl]
 unfold yh
 rw [jQ yA,if_pos h]
 exact Prod.ext (zG (LW h)) rfl
theorem nH {l:List Nd} {p q:Int} (z:HV) (id:Nat) (pa:List Nat) (h:(p,q) ∉ l):lX id pa (l.map pk) (idx l.length) z (.agg [.int .i64 p,.int .i64 q])=(z,false):=by
 rw [sK (by simp [idx]) (BZ _),show HV.agg [.int .i64 p,.int .i64 q]=pk (p,q) from rfl]
 unfold yh
 rw [jQ yA,if_neg h]
theorem kW {l:List Nd} {p q:Int} {n:Nat} (hn:n=l.length) (h:(p,q) ∉ l):rF ⟨.ints 2,none⟩ (l.map pk) (idx l.length) (.agg [.int .i64 p,.int .i64 q]) (.int .i64 n)=.omap ⟨.ints 2,none⟩ ((l++[(p,q)]).map pk) (idx (l++[(p,q)]).length):=by
 subst hn
 rw [show HV.agg [.int .i64 p,.int .i64 q]=pk (p,q) from rfl,Bv yA _ _ _ _ h,Ky]
 simp
abbrev jH (l:List Nd):HV:=.optr [NR l]
abbrev jG (l:List Nd):HV:=.optr [.osl 2 l.length (recs pC l)]
abbrev jr (F:List Bool) (R:List A):HV:=.optr [.osl 1 F.length (HL.bools F),.osl 4 R.length (recs aC R)]
theorem J9 {L:Lk} {fr id:Nat} {path:List Nat} {m:MK} {ks cs:List HV} {kk:KK} {ok b:Bool} {zz kx w:HV} (hn:aT (L id) path=.omap m ks cs) (hm:lX id path ks cs zz kx=(w,b)):aP L fr (.mlook ok kk zz (.mref id path) kx)=(okV ok w b,[],m.kind=kk/\dV kk kx=true):=by
 unfold lX at hm
 cases hf:fO kx ks<;>rw [hf] at hm<;>simp only [Prod.mk.injEq] at hm<;>obtain ⟨rfl,rfl⟩:=hm<;>simp only [aP,hn,hf]
set_option maxHeartbeats 8000000 in
theorem step_end {Kp:HV->Prop} (i a b p q:Int) (l:List Nd) (F:List Bool) (R:List A) (j:Nat) (hR:R.length<=100000000) (hg:∀z id pa,lX id pa (l.map pk) (idx l.length) z (.agg [.int .i64 p,.int .i64 q])=(.int .i64 j,true))
  (h:Kp (dJ [jH l,jG l,jr F (R++[⟨i,a,b,j⟩])])) :
  hx Try.prog [.c Jn] (finish [4,5,6] Kp) ⟨[(0,.int .i64 i),(1,.int .i64 a),(2,.int .i64 b),(4,.pref 0 [] 0),(5,.pref 1 [] 0),(6,.pref 2 [] 0),(10,.pref 3 [] 0)],[(0,jH l),(1,jG l),(2,jr F R),(3,.optr [.int .i64 p,.int .i64 q])],4⟩:=by
 unfold Jn
 unfold jH jG jr NR at h ⊢
 refine KW bu ?_
 refine rH (.pref 2 [] 1) _ rfl rfl (by trivial) rfl bu ?_
 refine rH (.ref 2 [1] 4 0 R.length) _ rfl rfl (Nat.le_of_ble_eq_true rfl) rfl bu ?_
 refine rH (.int .i64 i) _ rfl rfl (by trivial) rfl bu ?_
 refine rH (.int .i64 a) _ rfl rfl (by trivial) rfl bu ?_
 refine rH (.int .i64 b) _ rfl rfl (by trivial) rfl bu ?_
 refine rH (.mref 0 [0]) _ rfl rfl (Nat.le_of_ble_eq_true rfl) rfl bu ?_
 refine rH (.agg [.int .i64 p,.int .i64 q]) _ rfl rfl ⟨Nat.le_of_ble_eq_true rfl,Nat.le_of_ble_eq_true rfl,rfl⟩ rfl bu ?_
 refine rH (side:=KK.ints 2=KK.ints 2/\dV (.ints 2) (.agg [.int .i64 p,.int .i64 q])=true) (.int .i64 j) _ rfl ?_ ⟨rfl,rfl⟩ rfl bu ?_
 ·exact J9 (m:=⟨.ints 2,none⟩) rfl (hg (.int .i64 0) 0 [0])
 refine rH (.agg [.int .i64 i,.int .i64 a,.int .i64 b,.int .i64 j]) _ rfl rfl (by simp [jY,setFrom,cellsOf,tK,ev,aV]) rfl bu ?_
 refine O4 (.ref 148 [] 4 0 1) [.put 148 (.osl 4 1 [.int .i64 i,.int .i64 a,.int .i64 b,.int .i64 j])] rfl rfl rfl (by refine ⟨?_,rfl,rfl⟩;repeat (first|trivial|refine ⟨?_,?_⟩)) rfl rfl bu (by simp only [rJ,Dk];rfl) ?_
 refine O4 (side:=(4=4/\0+1*4<=4/\true=true)/\(R.length+1)*32<=140737488355328/\R.length+1<=maxLen/\4=4/\0+R.length*4<=(recs aC R).length) (.ref 164 [] 4 0 (R.length+1)) [.put 2 (.optr [.osl 1 F.length (HL.bools F),.dead]),.put 164 (.osl 4 (R.length+1) (recs aC (R++[⟨i,a,b,j⟩])))] rfl rfl ?_ ⟨⟨rfl,by omega,rfl⟩,by omega,by unfold maxLen;omega,rfl,by rw [AQ];omega⟩ rfl rfl bu (by simp only [rJ,Dk];rfl) ?_
 ·have hw:win (recs aC R) 0 (R.length*4)++[HV.int .i64 i,.int .i64 a,.int .i64 b,.int .i64 j]=recs aC (R++[⟨i,a,b,j⟩]):=by
   rw [CW _ rfl,yS]
  show (HV.ref 164 [] 4 0 (R.length+1),[Upd.put 2 (.optr [.osl 1 F.length (HL.bools F),.dead]),.put 164 (.osl 4 (R.length+1) (win (recs aC R) 0 (R.length*4)++[HV.int .i64 i,.int .i64 a,.int .i64 b,.int .i64 j]))],(4=4/\0+1*4<=4/\true=true)/\(R.length+1)*32<=140737488355328/\R.length+1<=maxLen/\4=4/\0+R.length*4<=(recs aC R).length)=_
  rw [hw]
 refine rH (.pref 2 [] 1) _ rfl rfl (by trivial) rfl bu ?_
 refine O4 (side:=((0=0/\R.length+1=R.length+1)/\True)/\[HV.osl 4 (R.length+1) (recs aC (R++[⟨i,a,b,j⟩]))].length=1/\0<1/\1+1<=2/\(false=true->dC [HV.osl 4 (R.length+1) (recs aC (R++[⟨i,a,b,j⟩]))]=true)) .dead [.put 164 .dead,.kill 2 0,.put 2 (.optr [.osl 1 F.length (HL.bools F),.osl 4 (R.length+1) (recs aC (R++[⟨i,a,b,j⟩]))])] rfl rfl rfl ⟨⟨⟨rfl,rfl⟩,trivial⟩,rfl,Nat.zero_lt_one,Nat.le_refl _,fun h=>absurd h (by decide)⟩ rfl rfl bu (by simp only [rJ,Dk];rfl) ?_
 refine Xe rfl ?_
 refine Ov (rs:=[4,5,6]) bW Et Tn ?_
 rw [List.length_append] at h
 exact h
set_option maxHeartbeats 8000000 in
theorem Af (i a b p q:Int) (l:List Nd) (F:List Bool) (R:List A) (hl:l.length<=100000000) (hF:F.length<=100000000) (hR:R.length<=100000000) :
  HTI Try.prog 65 [.int .i64 i,.int .i64 a,.int .i64 b,.agg [.int .i64 p,.int .i64 q],jH l,jG l,jr F R] [4,5,6] (fun r outs=>r=.tup []/\outs=[jH (add1 i (l,R) (a,b,(p,q))).1,jG (add1 i (l,R) (a,b,(p,q))).1,jr F (add1 i (l,R) (a,b,(p,q))).2]):=by
 refine HTI.of rfl ab3 (Nat.le_of_ble_eq_true rfl) 7 [4,5,6] (by rfl) (by rfl) (⟨[(0,.int .i64 i),(1,.int .i64 a),(2,.int .i64 b),(3,.agg [.int .i64 p,.int .i64 q]),(4,.pref 0 [] 0),(5,.pref 1 [] 0),(6,.pref 2 [] 0)],[(0,jH l),(1,jG l),(2,jr F R)],3⟩:St) rfl ?_
 unfold c65
 unfold jH jG jr NR
 by_cases h:(p,q)∈l
 ·have hg:=fun z id pa=>GG z id pa h
  have h1:=LW h
  have e:add1 i (l,R) (a,b,(p,q))=(l,R++[⟨i,a,b,Q8 l (p,q)⟩]):=by unfold add1 ins;simp only [if_pos h]
  rw [e]
  generalize Q8 l (p,q)=j at hg h1
  repeat (first|refine ah ?_|refine dK (by rfl) aW (by (try simp (disch:=omega) only [go_sem,reduceIte,Nat.reduceEqDiff,Nat.reduceAdd,Nat.reduceMul,hg]);try rfl) aG (by (try simp (disch:=omega) only [go_sem,hg]);try rfl) aQ ?_|refine af ?_|refine dZ ?_|refine ax ?_|refine au ?_|refine ae ?_|refine aH ?_|refine gI (by rfl) ?_|refine iE (by rfl) aW aI aG (by decide) (by (try simp (disch:=omega) only [go_sem,reduceIte,Nat.reduceEqDiff,Nat.reduceAdd,Nat.reduceMul,hg]);try rfl) fH ?_|refine di ?_|refine pI (by rfl) (by rfl) (by exact eY rfl) aQ ⟨rfl,rfl⟩ (by (try simp (disch:=omega) only [go_sem,reduceIte,Nat.reduceEqDiff,Nat.reduceAdd,Nat.reduceMul,hg]);try rfl) (by rfl) ?_)
  refine iO [0,1,2,4,5,6,10] ⟨[(0,.int .i64 i),(1,.int .i64 a),(2,.int .i64 b),(4,.pref 0 [] 0),(5,.pref 1 [] 0),(6,.pref 2 [] 0),(10,.pref 3 [] 0)],[(0,jH l),(1,jG l),(2,jr F R),(3,.optr [.int .i64 p,.int .i64 q])],4⟩ rfl ?_
  refine step_end i a b p q l F R j hR hg ?_
  exact ⟨_,rfl,rfl,by simp [jH,jG,jr],rfl,rfl⟩
 ·have h1:=Oz h
  have hg:=fun z id pa=>GG (l:=l++[(p,q)]) (p:=p) (q:=q) z id pa (by simp)
  have e:add1 i (l,R) (a,b,(p,q))=(l++[(p,q)],R++[⟨i,a,b,l.length⟩]):=by unfold add1 ins;simp only [if_neg h,h1]
  have hsn:(l++[(p,q)]).length=l.length+1:=by simp
  rw [h1] at hg
  rw [e]
  repeat (first|refine ah ?_|refine dK (by rfl) aW (by (try simp (disch:=omega) only [go_sem,reduceIte,Nat.reduceEqDiff,Nat.reduceAdd,Nat.reduceMul,nH _ _ _ h,kW rfl h]);try rfl) aG (by (try simp (disch:=omega) only [go_sem,nH _ _ _ h,kW rfl h]);try rfl) aQ ?_|refine af ?_|refine dZ ?_|refine dO (by rfl) ?_|refine ak ?_|refine au ?_|refine ae ?_|refine iG (by rfl) ?_|refine iE (by rfl) aW aI aG (by decide) (by (try simp (disch:=omega) only [go_sem,reduceIte,Nat.reduceEqDiff,Nat.reduceAdd,Nat.reduceMul,nH _ _ _ h,kW rfl h]);try rfl) fH ?_|refine kF (by rfl) aQ aI iW kG (by rfl) kX (by rfl) kY (by (try simp (disch:=omega) only [go_sem,reduceIte,Nat.reduceEqDiff,Nat.reduceAdd,Nat.reduceMul,nH _ _ _ h,kW rfl h]);try rfl) aG (by (try simp (disch:=omega) only [go_sem,nH _ _ _ h,kW rfl h]);try rfl) aI jk ?_|refine bP ?_|refine di ?_|refine iM dN (by rfl) aQ l9 (by (try simp (disch:=omega) only [go_sem,reduceIte,Nat.reduceEqDiff,Nat.reduceAdd,Nat.reduceMul,nH _ _ _ h,kW rfl h]);try omega) aW (by (try simp (disch:=omega) only [go_sem,reduceIte,Nat.reduceEqDiff,Nat.reduceAdd,Nat.reduceMul,nH _ _ _ h,kW rfl h]);try rfl) dN (by omega) fP aG (by (try simp (disch:=omega) only [go_sem,reduceIte,Nat.reduceEqDiff,Nat.reduceAdd,Nat.reduceMul,nH _ _ _ h,kW rfl h]);try rfl) aI ?_|refine pI (by rfl) (by rfl) (by exact eY rfl) aQ ⟨rfl,rfl⟩ (by (try simp (disch:=omega) only [go_sem,reduceIte,Nat.reduceEqDiff,Nat.reduceAdd,Nat.reduceMul,nH _ _ _ h,kW rfl h]);try rfl) (by rfl) ?_|refine pY (by rfl) aQ aQ lL (by trivial) lL (by exact eY rfl) ⟨rfl,rfl⟩ (by (try simp (disch:=omega) only [go_sem,reduceIte,Nat.reduceEqDiff,Nat.reduceAdd,Nat.reduceMul,nH _ _ _ h,kW rfl h]);try rfl) aI jk ?_)
  refine iO [0,1,2,4,5,6,10] ⟨[(0,.int .i64 i),(1,.int .i64 a),(2,.int .i64 b),(4,.pref 0 [] 0),(5,.pref 1 [] 0),(6,.pref 2 [] 0),(10,.pref 3 [] 0)],[(0,jH (l++[(p,q)])),(1,jG (l++[(p,q)])),(2,jr F R),(3,.optr [.int .i64 p,.int .i64 q])],4⟩ (by unfold jH jG jr NR;rw [hsn];rfl) ?_
  refine step_end i a b p q (l++[(p,q)]) F R l.length hR hg ?_
  exact ⟨_,rfl,rfl,by simp [jH,jG,jr],rfl,rfl⟩
end Go.Proofs.Ytlbdmpjnmfmnfaa
end
