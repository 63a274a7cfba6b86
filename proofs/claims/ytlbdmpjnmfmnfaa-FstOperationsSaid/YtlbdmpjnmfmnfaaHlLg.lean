import Derived.Test.YtlbdmpjnmfmnfaaFsL
import Derived.Test.YtlbdmpjnmfmnfaaFsN
import Derived.Test.YtlbdmpjnmfmnfaaFsB
import Derived.Test.YtlbdmpjnmfmnfaaFt1
import Derived.Test.YtlbdmpjnmfmnfaaFsZ
set_option linter.unusedSimpArgs false
set_option linter.unusedVariables false
set_option maxHeartbeats 4000000
section
namespace Go.Proofs.Ytlbdmpjnmfmnfaa
open Go.RowKit Go.HL Go.FS
theorem WB {α:Type} {l m:List α} (h:l.length≠m.length):l≠m:=fun e=>h (by rw [e])
theorem G6 {α:Type} {l m:List α} {n:Nat} (hl:l.length=n) (hm:m.length=n) (h:l.take n=m.take n):l=m:=by
 rw [kD (Nat.le_of_eq hl),kD (Nat.le_of_eq hm)] at h;exact h
theorem NL (u v:List Int) (hu:u.length<=1000000000) (hv:v.length<=1000000000):HT Try.prog 62 [.sl u.length (HL.ints u),.sl v.length (HL.ints v)] (fun r=>r=.bool (decide (u=v))):=by
 refine HT.of rfl agp (aZ rfl) ?_
 unfold c62
 simp only [aA,Nat.reduceAdd]
 by_cases hl:u.length=v.length
 ·refine zF ⟨?_⟩
  refine aI [0,1,5] (fun k:Nat=>k<=u.length/\u.take k=v.take k)
   (fun k=>⟨[(0,.sl u.length (HL.ints u)),(1,.sl v.length (HL.ints v)),(5,.int .i64 k)],[],0⟩)
   (fun k=>u.length - k) 0 ⟨by omega,by simp⟩ rfl ?_
  rintro k ⟨hk,ht⟩
  by_cases hkl:k<u.length
  ·have h1:=bK hkl
   have h2:=bK (l:=v) (k:=k) (by omega)
   by_cases he:u.getD k 0=v.getD k 0
   ·refine zF ⟨?_⟩
    refine bG ah ah (fun _ _ _=>False) ?_
    refine zF ⟨?_⟩
    exact aP [0,1,5] (k+1) ⟨hkl,by rw [h1,h2,ht];exact congrArg (fun x=>v.take k++[x]) he⟩ (by omega) rfl
   ·refine zF ⟨?_⟩
    refine bG ah ah (fun _ _ _=>False) ?_
    refine zF ⟨?_⟩
    refine ae ?_
    have:u≠v:=fun e=>he (by rw [e])
    simp [bT,this]
  ·obtain rfl:k=u.length:=by omega
   have:=G6 rfl hl.symm ht
   refine zF ⟨?_⟩
   refine ae ?_
   simp [bT,this]
 ·refine zF ⟨?_⟩
  refine ae ?_
  have:=WB hl
  simp [bT,this]
def gr (l:List (List Int)):List HV:=l.map fun u=>.sl u.length (HL.ints u)
theorem acY (l:List (List Int)):(gr l).length=l.length:=by simp [gr]
theorem ach (l:List (List Int)) {k:Nat} (h:k<l.length):(gr l).getD k .dead=.sl (l.getD k []).length (HL.ints (l.getD k [])):=by simp [gr,h]
attribute [go_sem] acY ach
theorem adb (l:List (List Int)):(wds l).map dn0=gr l:=by
 unfold wds gr
 rw [mW]
 refine List.map_congr_left fun u _=>?_
 by_cases h:u=[]
 ·subst h;rfl
 ·simp only [Function.comp,wR,if_neg h];rfl
theorem VP (l m:List (List Int)) (hl:l.length<=1000000000) (hm:m.length<=1000000000) (hu:∀u∈l,u.length<=1000000000) (hv:∀u∈m,u.length<=1000000000):HT Try.prog 19 [.sl l.length (gr l),.sl m.length (gr m)] (fun r=>r=.bool (decide (l=m))):=by
 refine HT.of rfl afW (aZ rfl) ?_
 unfold c19
 simp only [aA,Nat.reduceAdd]
 by_cases hlm:l.length=m.length
 ·refine zF ⟨?_⟩
  refine aI [0,1,5] (fun k:Nat=>k<=l.length/\l.take k=m.take k)
   (fun k=>⟨[(0,.sl l.length (gr l)),(1,.sl m.length (gr m)),(5,.int .i64 k)],[],0⟩)
   (fun k=>l.length - k) 0 ⟨by omega,by simp⟩ rfl ?_
  rintro k ⟨hk,ht⟩
  by_cases hkl:k<l.length
  ·have h1:=bK hkl
   have h2:=bK (l:=m) (k:=k) (by omega)
   have hs:=NL (l.getD k []) (m.getD k []) (hu _ (by rw [bH,bM hkl];exact gy _)) (hv _ (by rw [bH,bM (show k<m.length by omega)];exact gy _))
   by_cases he:l.getD k []=m.getD k []
   ·rw [decide_eq_true he] at hs
    refine zF ⟨?_⟩
    refine bG ah ah (fun _ _ r=>r=.bool true) ?_
    refine zF ⟨?_⟩
    refine bI ay aK hs ⟨_,rfl,rfl⟩ ?_
    rintro _ rfl -
    refine zG ⟨?_⟩
    refine zF ⟨?_⟩
    exact aP [0,1,5] (k+1) ⟨hkl,by rw [h1,h2,ht];exact congrArg (fun x=>m.take k++[x]) he⟩ (by omega) rfl
   ·rw [decide_eq_false he] at hs
    refine zF ⟨?_⟩
    refine bG ah ah (fun _ _ r=>r=.bool false) ?_
    refine zF ⟨?_⟩
    refine bI ay aK hs ⟨_,rfl,rfl⟩ ?_
    rintro _ rfl -
    refine zG ⟨?_⟩
    refine zF ⟨?_⟩
    refine ae ?_
    have:l≠m:=fun e=>he (by rw [e])
    simp [bT,this]
  ·obtain rfl:k=l.length:=by omega
   have:=G6 rfl hlm.symm ht
   refine zF ⟨?_⟩
   refine ae ?_
   simp [bT,this]
 ·refine zF ⟨?_⟩
  refine ae ?_
  have:=WB hlm
  simp [bT,this]
theorem wS (l m:List (List Int)) (hl:l.length<=1000000000) (hm:m.length<=1000000000) (hu:∀u∈l,u.length<=1000000000) (hv:∀u∈m,u.length<=1000000000):HT Try.prog 19 [.sl l.length (wds l),.sl m.length (wds m)] (fun r=>r=.bool (decide (l=m))) :=
 HT.arg (fun F h rvs o=>by
  have:=aai o
  simpa only [dV,pY,dn1,adb] using this) (VP l m hl hm hu hv)
theorem UF {fin:List Bool} {al:List A} {w:List Int} {G:List Nd} {most:Int} (hk:Eb al) (hG:∀x,x∈G <-> FS.Good fin al w x) {l:List (List Int)} (h:Lst fin al w most l):∀u∈l,u.length<=G.length:=by
 intro u hu
 have ho:=(h.mem hk).1 hu
 have hm:=(qI (n:=u.length) hk).2 ⟨ho.beg,rfl⟩
 rcases iE G.length u.length with h2|h2
 ·exact absurd h (TE hk (fun x hx=>(hG x).2 hx) h2 (fun e=>by rw [e] at hm;cases hm))
 ·exact h2
end Go.Proofs.Ytlbdmpjnmfmnfaa
end
section
namespace Go.Proofs.Ytlbdmpjnmfmnfaa
open Go.RowKit Go.HL Go.FS
open Classical in
noncomputable def IC (fin:List Bool) (al:List A) (w:List Int) (most:Int):List (List Int)×Int :=
 if Ej fin al w most then (if h:∃l,Lst fin al w most l then (h.choose,0) else ([],4)) else ([],1)
theorem Tm {fin:List Bool} {al:List A} (h:okF fin al=true):Eb al:=fun a ha=>by have:=cu h ha;omega
theorem ae3 {fin:List Bool} {al:List A} {w:List Int} {most:Int} {r:HV} (h:Tq fin al w most r):r=.tup [.osl 1 (IC fin al w most).1.length (wds (IC fin al w most).1),.int .i64 (IC fin al w most).2]:=by
 unfold Tq at h
 unfold IC
 by_cases ho:Ej fin al w most
 ·rw [if_pos ho] at h
  rw [if_pos ho]
  rcases h with ⟨l,h1,rfl⟩|⟨h1,rfl⟩
  ·have he:∃l,Lst fin al w most l:=⟨l,h1⟩
   rw [dif_pos he]
   have:=he.choose_spec.uniq (Tm ho.1) h1
   rw [this]
  ·rw [dif_neg (fun ⟨l,hl⟩=>h1 l hl)];rfl
 ·rw [if_neg ho] at h
  rw [if_neg ho,h];rfl
theorem acJ {fin:List Bool} {al:List A} {w:List Int} {most:Int} (h:(IC fin al w most).2=0):Ej fin al w most/\Lst fin al w most (IC fin al w most).1:=by
 unfold IC at h ⊢
 by_cases ho:Ej fin al w most
 ·rw [if_pos ho] at h ⊢
  by_cases he:∃l,Lst fin al w most l
  ·rw [dif_pos he] at h ⊢;exact ⟨ho,he.choose_spec⟩
  ·rw [dif_neg he] at h;cases h
 ·rw [if_neg ho] at h;cases h
theorem aag (fin:List Bool) (al:List A) (w:List Int) (most:Int):(IC fin al w most).2=0\/((IC fin al w most).1=[]/\((IC fin al w most).2=4\/(IC fin al w most).2=1)):=by
 unfold IC
 by_cases ho:Ej fin al w most
 ·rw [if_pos ho]
  by_cases he:∃l,Lst fin al w most l
  ·rw [dif_pos he];exact .inl rfl
  ·rw [dif_neg he];exact .inr ⟨rfl,.inl rfl⟩
 ·rw [if_neg ho];exact .inr ⟨rfl,.inr rfl⟩
open Classical in
theorem aaV {fin:List Bool} {al:List A} {w:List Int} {most:Int} {l:List (List Int)} (ho:Ej fin al w most) (h:Lst fin al w most l):l.length<=64/\∀u∈l,u.length<=10000000:=by
 have hv:=ho.1
 have hk:=Tm hv
 have hw:=ho.2.2.2
 obtain ⟨h1,h2,h3⟩:=bY hv
 refine ⟨by obtain ⟨n,_,_,h5⟩:=h;have:=ho.2.2.1;omega,fun u hu=>?_⟩
 have hin:∀a∈al,0<=a.f/\a.f<fin.length:=fun a ha=>by have:=cu hv ha;omega
 have hG:∀x,x∈(nodes fin.length w.length).filter (fun x=>decide (FS.Good fin al w x)) <-> FS.Good fin al w x:=fun x=>by
  rw [zl042]
  simp only [decide_eq_true_eq]
  refine ⟨fun h=>h.2,fun h=>⟨?_,h⟩⟩
  exact Jw (kX hin h)
 have h4:=UF hk hG h u hu
 have h5:=List.length_filter_le (fun x=>decide (FS.Good fin al w x)) (nodes fin.length w.length)
 rw [Ji] at h5
 have h6:fin.length*(w.length+1)<=2048*1025:=tK h2 (by omega)
 omega
theorem Sl (fin:List Bool) (al:List A) (w:List Int) (most:Int):(IC fin al w most).1.length<=64/\∀u∈(IC fin al w most).1,u.length<=10000000:=by
 rcases aag fin al w most with h|⟨h,_⟩
 ·obtain ⟨h1,h2⟩:=acJ h
  exact aaV h1 h2
 ·rw [h];simp
noncomputable def apT (fin:List Bool) (al:List A) (w:List Int) (most:Int):HV:=.tup [.osl 1 (IC fin al w most).1.length (wds (IC fin al w most).1),.int .i64 (IC fin al w most).2]
theorem Rl (fin:List Bool) (al:List A) (w:List Int) (most:Int) (hf:fin.length<=9223372036854775807) (ha:al.length<=9223372036854775807) (hwl:w.length<=9223372036854775807):HT Try.prog 18 [.agg (dE fin al),.sl w.length (HL.ints w),.int .i64 most] (fun r=>r=apT fin al w most) :=
 (Ub fin al w most hf ha hwl).mono fun _ h=>ae3 h
theorem VI (l:List (List Int)):stripL (wds l)=wds l:=by
 induction l with
 | nil=>rfl
 | cons u l ih =>
  have:(wR u).strip=wR u:=by
   unfold wR;split
   ·rfl
   ·simp [HV.strip,HL.ints_strip]
  simp only [wds,dV,stripL,this] at ih ⊢
  rw [ih]
def fC (p:List Bool×List A):List HV:=[.sl p.1.length (HL.bools p.1),.sl p.2.length (recs aC p.2)]
theorem fR:Rec fC 2:=⟨fun _=>rfl,fun _=>rfl,fun _=>rfl,fun p=>by simp [fC,stripL,HV.strip,HL.bools_strip,gQ]⟩
theorem XW (l:List (List Bool×List A)) {i:Nat} (h:i<l.length):win (recs fC l) (i*2) 2=[.sl (l.getD i default).1.length (HL.bools (l.getD i default).1),.sl (l.getD i default).2.length (recs aC (l.getD i default).2)]:=y7 fR l h
theorem Yw (l:List (List Bool×List A)):(recs fC l).length=l.length*2:=vw fR l
attribute [go_sem] XW Yw List.length_map
end Go.Proofs.Ytlbdmpjnmfmnfaa
end
section
namespace Go.HL
open Go.RowKit
def adX (masks:List Nat) (all:List af) (i:Nat) (o:af) (W R:List Nat) (log:nP):Bool :=
 log.all fun q=>wo masks q.1 i || wo masks i q.1 || (match all[q.1]? with|some o'=>!VH o' o|none=>true) || (W.all (fun x=>!q.2.2.contains x)&&q.2.1.all (fun x=>!R.contains x))
def IU (masks:List Nat) (all:List af):List af->Nat->nP->(St->Prop)->St->Prop
 | [],_,_,K,s=>K s
 | o::r,i,log,K,s=>o.guard=none/\o.op.isCall=false/\(ak s.M (s.nx+stride*i) (o.op.map (bZ s.S))).2.2 /\
   Ll masks all i o (ak s.M (s.nx+stride*i) (o.op.map (bZ s.S))).2.1 s.S log=true /\
   IU masks all r (i+1) ((i,uK o s.S (ak s.M (s.nx+stride*i) (o.op.map (bZ s.S))).2.1,lV o s.S)::log) K ((s.upd (ak s.M (s.nx+stride*i) (o.op.map (bZ s.S))).2.1).put o.dst (ak s.M (s.nx+stride*i) (o.op.map (bZ s.S))).1)
theorem Q5 {C:yD} {masks:List Nat} {all:List af} {K:St->Prop}:∀ {r:List af} {i:Nat} {log:nP} {s:St},IU masks all r i log K s->yQ C masks all r i log K s:=by
 intro r
 induction r with
 | nil=>intro i log s h;exact h
 | cons o r ih =>
  intro i log s h
  obtain ⟨h1,h2,h3,h4,h5⟩:=h
  simp only [yQ]
  rw [h1]
  simp only
  unfold XT
  have hM:(fun i=>ax i s.st)=s.M:=rfl
  rw [jl,hM]
  have nc:∀f xs,o.op.map (bZ s.S)≠.call f xs:=fun f xs e=>by
   obtain ⟨d,op,g⟩:=o
   cases op<;>simp [HOp.map,HOp.isCall] at e h2
  have nv:∀f cap xs,o.op.map (bZ s.S)≠.callv (.fn f cap) xs:=fun f cap xs e=>by
   obtain ⟨d,op,g⟩:=o
   cases op<;>simp [HOp.map,HOp.isCall] at e h2
  split
  ·rename_i f xs heq;exact absurd heq (nc f xs)
  ·rename_i f cap xs heq;exact absurd heq (nv f cap xs)
  ·exact ⟨h3,h4,ih h5⟩
theorem Wn {masks:List Nat} {all:List af} {K:St->Prop} (hK:∀s s',Eqv s s'->K s->K s'):∀ {r:List af} {i:Nat} {log:nP} {s s':St},Eqv s s'->IU masks all r i log K s->IU masks all r i log K s':=by
 intro r
 induction r with
 | nil=>intro i log s s' he h;exact hK _ _ he h
 | cons o r ih =>
  intro i log s s' he h
  simp only [IU] at h ⊢
  obtain ⟨e1,e2,e3⟩:=he
  rw [<- e1,<- e2,<- e3]
  exact ⟨h.1,h.2.1,h.2.2.1,h.2.2.2.1,ih (Eqv.upd ⟨e1,e2,e3⟩ _ _ _) h.2.2.2.2⟩
def GL (P:Program) (masks:List Nat) (all r:List af) (i:Nat) (log:nP) (k:List HI) (rs:List Nat) (K:HV->Prop) (sl st:List (Nat×HV)) (nx:Nat):Prop :=
 IU masks all r i log (fun s1=>hk P k (finish rs K) .normal { s1 with nx:=s1.nx+stride*all.length }) ⟨sl,st,nx⟩
theorem yN {P:Program} {k:List HI} {rs:List Nat} {K:HV->Prop} {sl st:List (Nat×HV)} {nx:Nat} {ops:List af} {masks:List Nat} (h1:ql masks ops=true) (h:GL P masks ops ops 0 [] k rs K sl st nx):hx P (.c (.region (some masks) ops)::k) (finish rs K) ⟨sl,st,nx⟩:=by
 refine TJ (Weak.refl _) ?_
 refine ⟨h1,fun _=>.inl ⟨DS.of fun _ _ _=>False,?_⟩⟩
 have:=YI (P:=P) (D:=fun _ _ _=>False) (masks:=masks) ops 0 [] ⟨sl,st,nx⟩ rfl rfl (Q5 h)
 rw [JP]
 exact this
theorem MW {P:Program} {masks:List Nat} {all:List af} {i:Nat} {log:nP} {k:List HI} {rs:List Nat} {K:HV->Prop} {sl st:List (Nat×HV)} {nx n2:Nat} (hn:nx+stride*all.length=n2) (h:hx P k (finish rs K) ⟨sl,st,n2⟩):GL P masks all [] i log k rs K sl st nx:=by
 subst hn
 unfold GL IU
 unfold hx at h
 exact h
theorem xK {P:Program} {masks:List Nat} {all r:List af} {i:Nat} {log:nP} {k:List HI} {rs:List Nat} {K:HV->Prop} {sl st sl' st':List (Nat×HV)} {nx:Nat} {d:Option Nat} {op:HOp HX} {op':HOp HV} [hp:Plain k] (v:HV) (us:List Upd) {side:Prop} {W R:List Nat} (hnc:op.isCall=false) (ho:op.map (ev sl)=op') (h0:ak (fun j=>ax j st) (nx+stride*i) op'=(v,us,side)) (hs:side)
  (hw:uK ⟨d,op,none⟩ (fun t=>ax t sl) us=W) (hr:lV ⟨d,op,none⟩ (fun t=>ax t sl)=R) (hc:adX masks all i ⟨d,op,none⟩ W R log=true) (hu:Bz d v (uT sl st us)=(sl',st')) (h:GL P masks all r (i+1) ((i,W,R)::log) k rs K sl' st' nx):GL P masks all (⟨d,op,none⟩::r) i log k rs K sl st nx:=by
 subst ho hw hr
 have e0:bZ (St.S ⟨sl,st,nx⟩)=ev sl:=by rw [<- jl]
 have e:ak (St.M ⟨sl,st,nx⟩) (nx+stride*i) (op.map (bZ (St.S ⟨sl,st,nx⟩)))=(v,us,side):=by rw [e0];exact h0
 have key:∀ (K0:St->Prop),(∀s s',Eqv s s'->K0 s->K0 s')->IU masks all r (i+1) ((i,uK ⟨d,op,none⟩ (fun t=>ax t sl) us,lV ⟨d,op,none⟩ (fun t=>ax t sl))::log) K0 ⟨sl',st',nx⟩->IU masks all (⟨d,op,none⟩::r) i log K0 ⟨sl,st,nx⟩:=by
  intro K0 hK0 hh
  refine ⟨rfl,hnc,?_,?_,?_⟩
  ·show (ak (St.M ⟨sl,st,nx⟩) (nx+stride*i) (op.map (bZ (St.S ⟨sl,st,nx⟩)))).2.2
   rw [e];exact hs
  ·show Ll masks all i ⟨d,op,none⟩ (ak (St.M ⟨sl,st,nx⟩) (nx+stride*i) (op.map (bZ (St.S ⟨sl,st,nx⟩)))).2.1 (fun t=>ax t sl) log=true
   rw [e];exact hc
  ·show IU masks all r (i+1) ((i,uK ⟨d,op,none⟩ (fun t=>ax t sl) (ak (St.M ⟨sl,st,nx⟩) (nx+stride*i) (op.map (bZ (St.S ⟨sl,st,nx⟩)))).2.1,lV ⟨d,op,none⟩ (fun t=>ax t sl))::log) K0 ((St.upd ⟨sl,st,nx⟩ (ak (St.M ⟨sl,st,nx⟩) (nx+stride*i) (op.map (bZ (St.S ⟨sl,st,nx⟩)))).2.1).put d (ak (St.M ⟨sl,st,nx⟩) (nx+stride*i) (op.map (bZ (St.S ⟨sl,st,nx⟩)))).1)
   rw [e]
   exact Wn hK0 (nV hu) hh
 exact key _ (fun a b hab hh=>LW hp.plain (s:={ a with nx:=a.nx+stride*all.length }) (s':={ b with nx:=b.nx+stride*all.length }) ⟨hab.1,hab.2.1,congrArg (fun n=>n+stride*all.length) hab.2.2⟩ hh) h
theorem dH {P:Program} {masks:List Nat} {all r:List af} {i:Nat} {log:nP} {k:List HI} {rs:List Nat} {K:HV->Prop} {sl st:List (Nat×HV)} {nx t:Nat} {op:HOp HX} [hp:Plain k] (v:HV) (R:List Nat) {side:Prop} (hnc:op.isCall=false) (h0:ak (fun j=>ax j st) (nx+stride*i) (op.map (ev sl))=(v,[],side)) (hs:side)
  (hr:lV ⟨some t,op,none⟩ (fun t=>ax t sl)=R) (hc:adX masks all i ⟨some t,op,none⟩ [] R log=true) (h:GL P masks all r (i+1) ((i,[],R)::log) k rs K ((t,v)::sl) st nx):GL P masks all (⟨some t,op,none⟩::r) i log k rs K sl st nx :=
 xK v [] hnc rfl h0 hs rfl hr hc rfl h
end Go.HL
end
