import Derived.Test.YtlbdmpjnmfmnfaaFt1
import Derived.Test.YtlbdmpjnmfmnfaaFsQ
import Derived.Test.YtlbdmpjnmfmnfaaFsV
section
set_option linter.unusedSimpArgs false
set_option linter.unusedVariables false
namespace Go.Proofs.Ytlbdmpjnmfmnfaa
open Go.RowKit Go.HL Go.FS
open Classical in
noncomputable def nK (fin:List Bool) (al:List A) (w:List Int) (most:Int):List (List Int)×Int :=
 if rV fin al w most then (if h:∃l,Lst fin al w most l then (h.choose,0) else ([],4)) else ([],1)
theorem tH {fin:List Bool} {al:List A} (h:okF fin al=true):uN al:=fun a ha=>by have:=dh h ha;omega
theorem YW {fin:List Bool} {al:List A} {w:List Int} {most:Int} {r:HV} (h:Ot fin al w most r):r=.tup [.osl 1 (nK fin al w most).1.length (wds (nK fin al w most).1),.int .i64 (nK fin al w most).2]:=by
 unfold Ot at h
 unfold nK
 by_cases ho:rV fin al w most
 ·rw [if_pos ho] at h
  rw [if_pos ho]
  rcases h with ⟨l,h1,rfl⟩|⟨h1,rfl⟩
  ·have he:∃l,Lst fin al w most l:=⟨l,h1⟩
   rw [dif_pos he]
   have:=he.choose_spec.uniq (tH ho.1) h1
   rw [this]
  ·rw [dif_neg (fun ⟨l,hl⟩=>h1 l hl)];rfl
 ·rw [if_neg ho] at h
  rw [if_neg ho,h];rfl
theorem Cf {fin:List Bool} {al:List A} {w:List Int} {most:Int} (h:(nK fin al w most).2=0):rV fin al w most/\Lst fin al w most (nK fin al w most).1:=by
 unfold nK at h ⊢
 by_cases ho:rV fin al w most
 ·rw [if_pos ho] at h ⊢
  by_cases he:∃l,Lst fin al w most l
  ·rw [dif_pos he] at h ⊢;exact ⟨ho,he.choose_spec⟩
  ·rw [dif_neg he] at h;cases h
 ·rw [if_neg ho] at h;cases h
theorem BF {fin:List Bool} {al:List A} {w:List Int} {most:Int} (ho:rV fin al w most) {l:List (List Int)} (h:Lst fin al w most l):nK fin al w most=(l,0):=by
 unfold nK
 have he:∃l,Lst fin al w most l:=⟨l,h⟩
 rw [if_pos ho,dif_pos he,he.choose_spec.uniq (tH ho.1) h]
theorem Px {fin:List Bool} {al:List A} {w:List Int} {most:Int} (ho:rV fin al w most) (h:∀l,¬ Lst fin al w most l):nK fin al w most=([],4):=by
 unfold nK
 rw [if_pos ho,dif_neg (fun ⟨l,hl⟩=>h l hl)]
theorem QB (fin:List Bool) (al:List A) (w:List Int) (most:Int):(nK fin al w most).2=0\/((nK fin al w most).1=[]/\((nK fin al w most).2=4\/(nK fin al w most).2=1)):=by
 unfold nK
 by_cases ho:rV fin al w most
 ·rw [if_pos ho]
  by_cases he:∃l,Lst fin al w most l
  ·rw [dif_pos he];exact .inl rfl
  ·rw [dif_neg he];exact .inr ⟨rfl,.inl rfl⟩
 ·rw [if_neg ho];exact .inr ⟨rfl,.inr rfl⟩
open Classical in
theorem TF {fin:List Bool} {al:List A} {w:List Int} {most:Int} {l:List (List Int)} (ho:rV fin al w most) (h:Lst fin al w most l):l.length<=64/\∀u∈l,u.length<=10000000:=by
 have hv:=ho.1
 have hk:=tH hv
 have hw:=ho.2.2.2
 obtain ⟨h1,h2,h3⟩:=dR hv
 refine ⟨by obtain ⟨n,_,_,h5⟩:=h;have:=ho.2.2.1;omega,fun u hu=>?_⟩
 have hin:∀a∈al,0<=a.f/\a.f<fin.length:=fun a ha=>by have:=dh hv ha;omega
 have hG:∀x,x∈(nodes fin.length w.length).filter (fun x=>decide (FS.Good fin al w x)) <-> FS.Good fin al w x:=fun x=>by
  rw [List.mem_filter]
  simp only [decide_eq_true_eq]
  refine ⟨fun h=>h.2,fun h=>⟨?_,h⟩⟩
  exact A8 (wB hin h)
 have h4:=Me hk hG h u hu
 have h5:=List.length_filter_le (fun x=>decide (FS.Good fin al w x)) (nodes fin.length w.length)
 rw [Ba] at h5
 have h6:fin.length*(w.length+1)<=2048*1025:=Nat.mul_le_mul h2 (by omega)
 omega
theorem vH (fin:List Bool) (al:List A) (w:List Int) (most:Int):(nK fin al w most).1.length<=64/\∀u∈(nK fin al w most).1,u.length<=10000000:=by
 rcases QB fin al w most with h|⟨h,_⟩
 ·obtain ⟨h1,h2⟩:=Cf h
  exact TF h1 h2
 ·rw [h];simp
noncomputable def apT (fin:List Bool) (al:List A) (w:List Int) (most:Int):HV:=.tup [.osl 1 (nK fin al w most).1.length (wds (nK fin al w most).1),.int .i64 (nK fin al w most).2]
theorem oU (fin:List Bool) (al:List A) (w:List Int) (most:Int) (hf:fin.length<=9223372036854775807) (ha:al.length<=9223372036854775807) (hwl:w.length<=9223372036854775807):HT Try.prog 17 [.agg (iC fin al),.sl w.length (HL.ints w),.int .i64 most] (fun r=>r=apT fin al w most) :=
 (Fz fin al w most hf ha hwl).mono fun _ h=>YW h
theorem AL (l:List (List Int)):stripL (wds l)=wds l:=by
 induction l with
 | nil=>rfl
 | cons u l ih =>
  have:(wR u).strip=wR u:=by
   unfold wR;split
   ·rfl
   ·simp [HV.strip,HL.ints_strip]
  simp only [wds,List.map_cons,stripL,this] at ih ⊢
  rw [ih]
def fC (p:List Bool×List A):List HV:=[.sl p.1.length (HL.bools p.1),.sl p.2.length (recs aC p.2)]
theorem fR:Rec fC 2:=⟨fun _=>rfl,fun _=>rfl,fun _=>rfl,fun p=>by simp [fC,stripL,HV.strip,HL.bools_strip,jf]⟩
theorem N7 (l:List (List Bool×List A)) {i:Nat} (h:i<l.length):win (recs fC l) (i*2) 2=[.sl (l.getD i default).1.length (HL.bools (l.getD i default).1),.sl (l.getD i default).2.length (recs aC (l.getD i default).2)]:=rW fR l h
theorem Qb (l:List (List Bool×List A)):(recs fC l).length=l.length*2:=oP fR l
attribute [go_sem] N7 Qb List.length_map
end Go.Proofs.Ytlbdmpjnmfmnfaa
end
section
set_option linter.unusedSimpArgs false
set_option linter.unusedVariables false
namespace Go.HL
open Go.RowKit
def YL (masks:List Nat) (all:List aH) (i:Nat) (o:aH) (W R:List Nat) (log:kz):Bool :=
 log.all fun q=>pz masks q.1 i || pz masks i q.1 || (match all[q.1]? with|some o'=>!KN o' o|none=>true) || (W.all (fun x=>!q.2.2.contains x)&&q.2.1.all (fun x=>!R.contains x))
def zY (masks:List Nat) (all:List aH):List aH->Nat->kz->(St->Prop)->St->Prop
 | [],_,_,K,s=>K s
 | o::r,i,log,K,s=>o.guard=none/\o.op.isCall=false/\(aA s.M (s.nx+stride*i) (o.op.map (dL s.S))).2.2 /\
   Dh masks all i o (aA s.M (s.nx+stride*i) (o.op.map (dL s.S))).2.1 s.S log=true /\
   zY masks all r (i+1) ((i,ou o s.S (aA s.M (s.nx+stride*i) (o.op.map (dL s.S))).2.1,lT o s.S)::log) K ((s.upd (aA s.M (s.nx+stride*i) (o.op.map (dL s.S))).2.1).put o.dst (aA s.M (s.nx+stride*i) (o.op.map (dL s.S))).1)
theorem G5 {C:rf} {masks:List Nat} {all:List aH} {K:St->Prop}:∀ {r:List aH} {i:Nat} {log:kz} {s:St},zY masks all r i log K s->su C masks all r i log K s:=by
 intro r
 induction r with
 | nil=>intro i log s h;exact h
 | cons o r ih =>
  intro i log s h
  obtain ⟨h1,h2,h3,h4,h5⟩:=h
  simp only [su]
  rw [h1]
  simp only
  unfold Qj
  have hM:(fun i=>aG i s.st)=s.M:=rfl
  rw [iM,hM]
  have nc:∀f xs,o.op.map (dL s.S)≠.call f xs:=fun f xs e=>by
   obtain ⟨d,op,g⟩:=o
   cases op<;>simp [HOp.map,HOp.isCall] at e h2
  have nv:∀f cap xs,o.op.map (dL s.S)≠.callv (.fn f cap) xs:=fun f cap xs e=>by
   obtain ⟨d,op,g⟩:=o
   cases op<;>simp [HOp.map,HOp.isCall] at e h2
  split
  ·rename_i f xs heq;exact absurd heq (nc f xs)
  ·rename_i f cap xs heq;exact absurd heq (nv f cap xs)
  ·exact ⟨h3,h4,ih h5⟩
theorem NM {masks:List Nat} {all:List aH} {K:St->Prop} (hK:∀s s',Eqv s s'->K s->K s'):∀ {r:List aH} {i:Nat} {log:kz} {s s':St},Eqv s s'->zY masks all r i log K s->zY masks all r i log K s':=by
 intro r
 induction r with
 | nil=>intro i log s s' he h;exact hK _ _ he h
 | cons o r ih =>
  intro i log s s' he h
  simp only [zY] at h ⊢
  obtain ⟨e1,e2,e3⟩:=he
  rw [<- e1,<- e2,<- e3]
  exact ⟨h.1,h.2.1,h.2.2.1,h.2.2.2.1,ih (Eqv.upd ⟨e1,e2,e3⟩ _ _ _) h.2.2.2.2⟩
def GL (P:Program) (masks:List Nat) (all r:List aH) (i:Nat) (log:kz) (k:List HI) (rs:List Nat) (K:HV->Prop) (sl st:List (Nat×HV)) (nx:Nat):Prop :=
 zY masks all r i log (fun s1=>hk P k (finish rs K) .normal { s1 with nx:=s1.nx+stride*all.length }) ⟨sl,st,nx⟩
theorem yR {P:Program} {k:List HI} {rs:List Nat} {K:HV->Prop} {sl st:List (Nat×HV)} {nx:Nat} {ops:List aH} {masks:List Nat} (h1:lI masks ops=true) (h:GL P masks ops ops 0 [] k rs K sl st nx):hx P (.c (.region (some masks) ops)::k) (finish rs K) ⟨sl,st,nx⟩:=by
 refine IV (Weak.refl _) ?_
 refine ⟨h1,fun _=>.inl ⟨DS.of fun _ _ _=>False,?_⟩⟩
 have:=PN (P:=P) (D:=fun _ _ _=>False) (masks:=masks) ops 0 [] ⟨sl,st,nx⟩ rfl rfl (G5 h)
 rw [List.range_eq_range']
 exact this
theorem Py {P:Program} {masks:List Nat} {all:List aH} {i:Nat} {log:kz} {k:List HI} {rs:List Nat} {K:HV->Prop} {sl st:List (Nat×HV)} {nx n2:Nat} (hn:nx+stride*all.length=n2) (h:hx P k (finish rs K) ⟨sl,st,n2⟩):GL P masks all [] i log k rs K sl st nx:=by
 subst hn
 unfold GL zY
 unfold hx at h
 exact h
theorem zU {P:Program} {masks:List Nat} {all r:List aH} {i:Nat} {log:kz} {k:List HI} {rs:List Nat} {K:HV->Prop} {sl st sl' st':List (Nat×HV)} {nx:Nat} {d:Option Nat} {op:HOp HX} {op':HOp HV} [hp:Plain k] (v:HV) (us:List Upd) {side:Prop} {W R:List Nat} (hnc:op.isCall=false) (ho:op.map (ev sl)=op') (h0:aA (fun j=>aG j st) (nx+stride*i) op'=(v,us,side)) (hs:side)
  (hw:ou ⟨d,op,none⟩ (fun t=>aG t sl) us=W) (hr:lT ⟨d,op,none⟩ (fun t=>aG t sl)=R) (hc:YL masks all i ⟨d,op,none⟩ W R log=true) (hu:uU d v (nU sl st us)=(sl',st')) (h:GL P masks all r (i+1) ((i,W,R)::log) k rs K sl' st' nx):GL P masks all (⟨d,op,none⟩::r) i log k rs K sl st nx:=by
 subst ho hw hr
 have e0:dL (St.S ⟨sl,st,nx⟩)=ev sl:=by rw [<- iM]
 have e:aA (St.M ⟨sl,st,nx⟩) (nx+stride*i) (op.map (dL (St.S ⟨sl,st,nx⟩)))=(v,us,side):=by rw [e0];exact h0
 have key:∀ (K0:St->Prop),(∀s s',Eqv s s'->K0 s->K0 s')->zY masks all r (i+1) ((i,ou ⟨d,op,none⟩ (fun t=>aG t sl) us,lT ⟨d,op,none⟩ (fun t=>aG t sl))::log) K0 ⟨sl',st',nx⟩->zY masks all (⟨d,op,none⟩::r) i log K0 ⟨sl,st,nx⟩:=by
  intro K0 hK0 hh
  refine ⟨rfl,hnc,?_,?_,?_⟩
  ·show (aA (St.M ⟨sl,st,nx⟩) (nx+stride*i) (op.map (dL (St.S ⟨sl,st,nx⟩)))).2.2
   rw [e];exact hs
  ·show Dh masks all i ⟨d,op,none⟩ (aA (St.M ⟨sl,st,nx⟩) (nx+stride*i) (op.map (dL (St.S ⟨sl,st,nx⟩)))).2.1 (fun t=>aG t sl) log=true
   rw [e];exact hc
  ·show zY masks all r (i+1) ((i,ou ⟨d,op,none⟩ (fun t=>aG t sl) (aA (St.M ⟨sl,st,nx⟩) (nx+stride*i) (op.map (dL (St.S ⟨sl,st,nx⟩)))).2.1,lT ⟨d,op,none⟩ (fun t=>aG t sl))::log) K0 ((St.upd ⟨sl,st,nx⟩ (aA (St.M ⟨sl,st,nx⟩) (nx+stride*i) (op.map (dL (St.S ⟨sl,st,nx⟩)))).2.1).put d (aA (St.M ⟨sl,st,nx⟩) (nx+stride*i) (op.map (dL (St.S ⟨sl,st,nx⟩)))).1)
   rw [e]
   exact NM hK0 (kH hu) hh
 exact key _ (fun a b hab hh=>Du hp.plain (s:={ a with nx:=a.nx+stride*all.length }) (s':={ b with nx:=b.nx+stride*all.length }) ⟨hab.1,hab.2.1,congrArg (fun n=>n+stride*all.length) hab.2.2⟩ hh) h
theorem iR {P:Program} {masks:List Nat} {all r:List aH} {i:Nat} {log:kz} {k:List HI} {rs:List Nat} {K:HV->Prop} {sl st:List (Nat×HV)} {nx t:Nat} {op:HOp HX} [hp:Plain k] (v:HV) (R:List Nat) {side:Prop} (hnc:op.isCall=false) (h0:aA (fun j=>aG j st) (nx+stride*i) (op.map (ev sl))=(v,[],side)) (hs:side)
  (hr:lT ⟨some t,op,none⟩ (fun t=>aG t sl)=R) (hc:YL masks all i ⟨some t,op,none⟩ [] R log=true) (h:GL P masks all r (i+1) ((i,[],R)::log) k rs K ((t,v)::sl) st nx):GL P masks all (⟨some t,op,none⟩::r) i log k rs K sl st nx :=
 zU v [] hnc rfl h0 hs rfl hr hc rfl h
end Go.HL
end
