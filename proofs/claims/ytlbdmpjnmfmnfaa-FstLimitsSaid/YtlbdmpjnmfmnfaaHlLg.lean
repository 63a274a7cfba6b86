import Derived.Test.YtlbdmpjnmfmnfaaFt1
import Derived.Test.YtlbdmpjnmfmnfaaFsZ
import Derived.Test.YtlbdmpjnmfmnfaaFsQ
import Derived.Test.YtlbdmpjnmfmnfaaFw4
section
set_option linter.unusedSimpArgs false
set_option linter.unusedVariables false
namespace Go.Proofs.Ytlbdmpjnmfmnfaa
open Go.RowKit Go.HL Go.FS
open Classical in
noncomputable def Gl (fin:List Bool) (al:List A) (w:List Int) (most:Int):List (List Int)×Int :=
 if xn fin al w most then (if h:∃l,Lst fin al w most l then (h.choose,0) else ([],4)) else ([],1)
theorem Py {fin:List Bool} {al:List A} (h:okF fin al=true):vU al:=fun a ha=>by have:=fD h ha;omega
theorem TB {fin:List Bool} {al:List A} {w:List Int} {most:Int} (h:(Gl fin al w most).2=0):xn fin al w most/\Lst fin al w most (Gl fin al w most).1:=by
 unfold Gl at h ⊢
 by_cases ho:xn fin al w most
 ·rw [if_pos ho] at h ⊢
  by_cases he:∃l,Lst fin al w most l
  ·rw [dif_pos he] at h ⊢;exact ⟨ho,he.choose_spec⟩
  ·rw [dif_neg he] at h;cases h
 ·rw [if_neg ho] at h;cases h
theorem Oj (fin:List Bool) (al:List A) (w:List Int) (most:Int):(Gl fin al w most).2=0\/((Gl fin al w most).1=[]/\((Gl fin al w most).2=4\/(Gl fin al w most).2=1)):=by
 unfold Gl
 by_cases ho:xn fin al w most
 ·rw [if_pos ho]
  by_cases he:∃l,Lst fin al w most l
  ·rw [dif_pos he];exact .inl rfl
  ·rw [dif_neg he];exact .inr ⟨rfl,.inl rfl⟩
 ·rw [if_neg ho];exact .inr ⟨rfl,.inr rfl⟩
open Classical in
theorem O4 {fin:List Bool} {al:List A} {w:List Int} {most:Int} {l:List (List Int)} (ho:xn fin al w most) (h:Lst fin al w most l):l.length<=64/\∀u∈l,u.length<=10000000:=by
 have hv:=ho.1
 have hk:=Py hv
 have hw:=ho.2.2.2
 obtain ⟨h1,h2,h3⟩:=gm hv
 refine ⟨by obtain ⟨n,_,_,h5⟩:=h;have:=ho.2.2.1;omega,fun u hu=>?_⟩
 have hin:∀a∈al,0<=a.f/\a.f<fin.length:=fun a ha=>by have:=fD hv ha;omega
 have hG:∀x,x∈(nodes fin.length w.length).filter (fun x=>decide (FS.Good fin al w x)) <-> FS.Good fin al w x:=fun x=>by
  rw [List.mem_filter]
  simp only [decide_eq_true_eq]
  refine ⟨fun h=>h.2,fun h=>⟨?_,h⟩⟩
  exact zT (ui hin h)
 have h4:=Ju hk hG h u hu
 have h5:=List.length_filter_le (fun x=>decide (FS.Good fin al w x)) (nodes fin.length w.length)
 rw [zD] at h5
 have h6:fin.length*(w.length+1)<=2048*1025:=Nat.mul_le_mul h2 (by omega)
 omega
theorem Ql (fin:List Bool) (al:List A) (w:List Int) (most:Int):(Gl fin al w most).1.length<=64/\∀u∈(Gl fin al w most).1,u.length<=10000000:=by
 rcases Oj fin al w most with h|⟨h,_⟩
 ·obtain ⟨h1,h2⟩:=TB h
  exact O4 h1 h2
 ·rw [h];simp
def fC (p:List Bool×List A):List HV:=[.sl p.1.length (HL.bools p.1),.sl p.2.length (recs aC p.2)]
theorem fR:Rec fC 2:=⟨fun _=>rfl,fun _=>rfl,fun _=>rfl,fun p=>by simp [fC,stripL,HV.strip,HL.bools_strip,iR]⟩
theorem NT (l:List (List Bool×List A)) {i:Nat} (h:i<l.length):win (recs fC l) (i*2) 2=[.sl (l.getD i default).1.length (HL.bools (l.getD i default).1),.sl (l.getD i default).2.length (recs aC (l.getD i default).2)]:=pX fR l h
theorem KQ (l:List (List Bool×List A)):(recs fC l).length=l.length*2:=oK fR l
attribute [go_sem] NT KQ List.length_map
end Go.Proofs.Ytlbdmpjnmfmnfaa
end
section
set_option linter.unusedSimpArgs false
set_option linter.unusedVariables false
namespace Go.HL
open Go.RowKit
def Yy (masks:List Nat) (all:List aB) (i:Nat) (o:aB) (W R:List Nat) (log:jL):Bool :=
 log.all fun q=>oQ masks q.1 i || oQ masks i q.1 || (match all[q.1]? with|some o'=>!Iy o' o|none=>true) || (W.all (fun x=>!q.2.2.contains x)&&q.2.1.all (fun x=>!R.contains x))
def yU (masks:List Nat) (all:List aB):List aB->Nat->jL->(St->Prop)->St->Prop
 | [],_,_,K,s=>K s
 | o::r,i,log,K,s=>o.guard=none/\o.op.isCall=false/\(az s.M (s.nx+stride*i) (o.op.map (dA s.S))).2.2 /\
   Ag masks all i o (az s.M (s.nx+stride*i) (o.op.map (dA s.S))).2.1 s.S log=true /\
   yU masks all r (i+1) ((i,nR o s.S (az s.M (s.nx+stride*i) (o.op.map (dA s.S))).2.1,kW o s.S)::log) K ((s.upd (az s.M (s.nx+stride*i) (o.op.map (dA s.S))).2.1).put o.dst (az s.M (s.nx+stride*i) (o.op.map (dA s.S))).1)
theorem Fe {C:qM} {masks:List Nat} {all:List aB} {K:St->Prop}:∀ {r:List aB} {i:Nat} {log:jL} {s:St},yU masks all r i log K s->qI C masks all r i log K s:=by
 intro r
 induction r with
 | nil=>intro i log s h;exact h
 | cons o r ih =>
  intro i log s h
  obtain ⟨h1,h2,h3,h4,h5⟩:=h
  simp only [qI]
  rw [h1]
  simp only
  unfold Lt
  have hM:(fun i=>aA i s.st)=s.M:=rfl
  rw [iq,hM]
  have nc:∀f xs,o.op.map (dA s.S)≠.call f xs:=fun f xs e=>by
   obtain ⟨d,op,g⟩:=o
   cases op<;>simp [HOp.map,HOp.isCall] at e h2
  have nv:∀f cap xs,o.op.map (dA s.S)≠.callv (.fn f cap) xs:=fun f cap xs e=>by
   obtain ⟨d,op,g⟩:=o
   cases op<;>simp [HOp.map,HOp.isCall] at e h2
  split
  ·rename_i f xs heq;exact absurd heq (nc f xs)
  ·rename_i f cap xs heq;exact absurd heq (nv f cap xs)
  ·exact ⟨h3,h4,ih h5⟩
theorem LQ {masks:List Nat} {all:List aB} {K:St->Prop} (hK:∀s s',Eqv s s'->K s->K s'):∀ {r:List aB} {i:Nat} {log:jL} {s s':St},Eqv s s'->yU masks all r i log K s->yU masks all r i log K s':=by
 intro r
 induction r with
 | nil=>intro i log s s' he h;exact hK _ _ he h
 | cons o r ih =>
  intro i log s s' he h
  simp only [yU] at h ⊢
  obtain ⟨e1,e2,e3⟩:=he
  rw [<- e1,<- e2,<- e3]
  exact ⟨h.1,h.2.1,h.2.2.1,h.2.2.2.1,ih (Eqv.upd ⟨e1,e2,e3⟩ _ _ _) h.2.2.2.2⟩
def GL (P:Program) (masks:List Nat) (all r:List aB) (i:Nat) (log:jL) (k:List HI) (rs:List Nat) (K:HV->Prop) (sl st:List (Nat×HV)) (nx:Nat):Prop :=
 yU masks all r i log (fun s1=>hk P k (finish rs K) .normal { s1 with nx:=s1.nx+stride*all.length }) ⟨sl,st,nx⟩
theorem Lr {P:Program} {k:List HI} {rs:List Nat} {K:HV->Prop} {sl st:List (Nat×HV)} {nx:Nat} {ops:List aB} {masks:List Nat} (h1:mD masks ops=true) (h:GL P masks ops ops 0 [] k rs K sl st nx):hx P (.c (.region (some masks) ops)::k) (finish rs K) ⟨sl,st,nx⟩:=by
 refine Nq (Weak.refl _) ?_
 refine ⟨h1,fun _=>.inl ⟨DS.of fun _ _ _=>False,?_⟩⟩
 have:=Lm (P:=P) (D:=fun _ _ _=>False) (masks:=masks) ops 0 [] ⟨sl,st,nx⟩ rfl rfl (Fe h)
 rw [List.range_eq_range']
 exact this
theorem Vz {P:Program} {masks:List Nat} {all:List aB} {i:Nat} {log:jL} {k:List HI} {rs:List Nat} {K:HV->Prop} {sl st:List (Nat×HV)} {nx n2:Nat} (hn:nx+stride*all.length=n2) (h:hx P k (finish rs K) ⟨sl,st,n2⟩):GL P masks all [] i log k rs K sl st nx:=by
 subst hn
 unfold GL yU
 unfold hx at h
 exact h
theorem PU {P:Program} {masks:List Nat} {all r:List aB} {i:Nat} {log:jL} {k:List HI} {rs:List Nat} {K:HV->Prop} {sl st sl' st':List (Nat×HV)} {nx:Nat} {d:Option Nat} {op:HOp HX} {op':HOp HV} [hp:Plain k] (v:HV) (us:List Upd) {side:Prop} {W R:List Nat} (hnc:op.isCall=false) (ho:op.map (ev sl)=op') (h0:az (fun j=>aA j st) (nx+stride*i) op'=(v,us,side)) (hs:side)
  (hw:nR ⟨d,op,none⟩ (fun t=>aA t sl) us=W) (hr:kW ⟨d,op,none⟩ (fun t=>aA t sl)=R) (hc:Yy masks all i ⟨d,op,none⟩ W R log=true) (hu:o8 d v (kR sl st us)=(sl',st')) (h:GL P masks all r (i+1) ((i,W,R)::log) k rs K sl' st' nx):GL P masks all (⟨d,op,none⟩::r) i log k rs K sl st nx:=by
 subst ho hw hr
 have e0:dA (St.S ⟨sl,st,nx⟩)=ev sl:=by rw [<- iq]
 have e:az (St.M ⟨sl,st,nx⟩) (nx+stride*i) (op.map (dA (St.S ⟨sl,st,nx⟩)))=(v,us,side):=by rw [e0];exact h0
 have key:∀ (K0:St->Prop),(∀s s',Eqv s s'->K0 s->K0 s')->yU masks all r (i+1) ((i,nR ⟨d,op,none⟩ (fun t=>aA t sl) us,kW ⟨d,op,none⟩ (fun t=>aA t sl))::log) K0 ⟨sl',st',nx⟩->yU masks all (⟨d,op,none⟩::r) i log K0 ⟨sl,st,nx⟩:=by
  intro K0 hK0 hh
  refine ⟨rfl,hnc,?_,?_,?_⟩
  ·show (az (St.M ⟨sl,st,nx⟩) (nx+stride*i) (op.map (dA (St.S ⟨sl,st,nx⟩)))).2.2
   rw [e];exact hs
  ·show Ag masks all i ⟨d,op,none⟩ (az (St.M ⟨sl,st,nx⟩) (nx+stride*i) (op.map (dA (St.S ⟨sl,st,nx⟩)))).2.1 (fun t=>aA t sl) log=true
   rw [e];exact hc
  ·show yU masks all r (i+1) ((i,nR ⟨d,op,none⟩ (fun t=>aA t sl) (az (St.M ⟨sl,st,nx⟩) (nx+stride*i) (op.map (dA (St.S ⟨sl,st,nx⟩)))).2.1,kW ⟨d,op,none⟩ (fun t=>aA t sl))::log) K0 ((St.upd ⟨sl,st,nx⟩ (az (St.M ⟨sl,st,nx⟩) (nx+stride*i) (op.map (dA (St.S ⟨sl,st,nx⟩)))).2.1).put d (az (St.M ⟨sl,st,nx⟩) (nx+stride*i) (op.map (dA (St.S ⟨sl,st,nx⟩)))).1)
   rw [e]
   exact LQ hK0 (jO hu) hh
 exact key _ (fun a b hab hh=>Aa hp.plain (s:={ a with nx:=a.nx+stride*all.length }) (s':={ b with nx:=b.nx+stride*all.length }) ⟨hab.1,hab.2.1,congrArg (fun n=>n+stride*all.length) hab.2.2⟩ hh) h
theorem su {P:Program} {masks:List Nat} {all r:List aB} {i:Nat} {log:jL} {k:List HI} {rs:List Nat} {K:HV->Prop} {sl st:List (Nat×HV)} {nx t:Nat} {op:HOp HX} [hp:Plain k] (v:HV) (R:List Nat) {side:Prop} (hnc:op.isCall=false) (h0:az (fun j=>aA j st) (nx+stride*i) (op.map (ev sl))=(v,[],side)) (hs:side)
  (hr:kW ⟨some t,op,none⟩ (fun t=>aA t sl)=R) (hc:Yy masks all i ⟨some t,op,none⟩ [] R log=true) (h:GL P masks all r (i+1) ((i,[],R)::log) k rs K ((t,v)::sl) st nx):GL P masks all (⟨some t,op,none⟩::r) i log k rs K sl st nx :=
 PU v [] hnc rfl h0 hs rfl hr hc rfl h
end Go.HL
end
