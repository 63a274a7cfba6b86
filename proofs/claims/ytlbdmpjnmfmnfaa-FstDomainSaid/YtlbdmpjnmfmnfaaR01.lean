import Derived.Test.YtlbdmpjnmfmnfaaFs3
import Derived.Test.YtlbdmpjnmfmnfaaHlW
import Derived.Test.YtlbdmpjnmfmnfaaHlFi
import Derived.Test.YtlbdmpjnmfmnfaaMnA
set_option linter.unusedSimpArgs false
set_option linter.unusedVariables false
set_option maxHeartbeats 8000000
section
namespace Go.Proofs.Ytlbdmpjnmfmnfaa
open Go.RowKit Go.HL Go.FS
inductive Rn (nx:Nat->List Int) (L0:List Int):Nat->Prop
 | on {j:Int}:j∈L0->Rn nx L0 j.toNat
 | step {i:Nat} {j:Int}:Rn nx L0 i->j∈nx i->Rn nx L0 j.toNat
structure RB (nx:Nat->List Int) (L0:List Int) (n B:Nat) (rb:List Bool) (L:List Int):Prop where
 len:rb.length=n
 inr:∀j∈L,0<=j/\j<n
 snd1:∀i,rb.getD i false=true->Rn nx L0 i
 snd2:∀j∈L,Rn nx L0 j.toNat
 base:∀j∈L0,rb.getD j.toNat false=true\/j∈L
 cl:∀i,rb.getD i false=true->∀j∈nx i,rb.getD j.toNat false=true\/j∈L
 few:L.length+cf rb*B<=L0.length+n*B
section
variable {nx:Nat->List Int} {L0:List Int} {n B:Nat}
theorem YI (n:Nat):cf (List.replicate n false)=n:=by simp [cf]
theorem RB.start (h:∀j∈L0,0<=j/\j<n):RB nx L0 n B (List.replicate n false) L0:=by
 have h0:∀i,(List.replicate n false).getD i false=false:=fun i=>by
  rw [bf,List.getElem?_replicate];split<;>rfl
 exact ⟨by simp,h,fun i hi=>(by rw [h0] at hi;cases hi),fun j hj=>.on hj,fun j hj=>.inr hj,fun i hi=>(by rw [h0] at hi;cases hi),by rw [YI];exact aY _⟩
theorem RB.skip {rb:List Bool} {L:List Int} {j:Int} (h:RB nx L0 n B rb (L++[j])) (hj:rb.getD j.toNat false=true):RB nx L0 n B rb L:=by
 have hd:∀x,(rb.getD x.toNat false=true\/x∈L++[j])->rb.getD x.toNat false=true\/x∈L:=fun x hx=>by
  rcases hx with hx|hx
  ·exact .inl hx
  ·rcases zl002.1 hx with hx|hx
   ·exact .inr hx
   ·simp only [zl009] at hx;subst hx;exact .inl hj
 exact ⟨h.len,fun x hx=>h.inr x (by simp [hx]),h.snd1,fun x hx=>h.snd2 x (by simp [hx]),fun x hx=>hd x (h.base x hx),fun i hi x hx=>hd x (h.cl i hi x hx),by
  have:=h.few;rw [dQ] at this;omega⟩
theorem QH {rb:List Bool} {i k:Nat} (hi:i<rb.length):(rb.set i true).getD k false=if i=k then true else rb.getD k false:=by
 rw [bf,CW]
 by_cases e:i=k
 ·subst e;simp [hi]
 ·simp [e]
theorem RB.add {rb:List Bool} {L:List Int} {j:Int} (h:RB nx L0 n B rb (L++[j])) (hj:rb.getD j.toNat false=false) (hin:∀x∈nx j.toNat,0<=x/\x<n) (hB:(nx j.toNat).length<=B):RB nx L0 n B (rb.set j.toNat true) (L++nx j.toNat):=by
 have hjn:=h.inr j (by simp)
 have hjl:j.toNat<rb.length:=by rw [h.len];omega
 have hg:=fun k=>QH (k:=k) hjl
 have hd:∀x,(rb.getD x.toNat false=true\/x∈L++[j])->(rb.set j.toNat true).getD x.toNat false=true\/x∈L++nx j.toNat:=fun x hx=>by
  rcases hx with hx|hx
  ·left;rw [hg];split;rfl;exact hx
  ·rcases zl002.1 hx with hx|hx
   ·exact .inr (by simp [hx])
   ·simp only [zl009] at hx;subst hx;left;rw [hg,if_pos rfl]
 have hc:=Kv rb _ hjl hj
 refine ⟨by rw [List.length_set];exact h.len,fun x hx=>?_,fun i hi=>?_,fun x hx=>?_,fun x hx=>hd x (h.base x hx),fun i hi x hx=>?_,?_⟩
 ·rcases zl002.1 hx with hx|hx
  ·exact h.inr x (by simp [hx])
  ·exact hin x hx
 ·rw [hg] at hi
  by_cases e:j.toNat=i
  ·rw [<- e];exact h.snd2 j (by simp)
  ·rw [if_neg e] at hi;exact h.snd1 i hi
 ·rcases zl002.1 hx with hx|hx
  ·exact h.snd2 x (by simp [hx])
  ·exact .step (h.snd2 j (by simp)) hx
 ·rw [hg] at hi
  by_cases e:j.toNat=i
  ·subst e;exact .inr (by simp [hx])
  ·rw [if_neg e] at hi;exact hd x (h.cl i hi x hx)
 ·have:=h.few
  rw [dQ] at this ⊢
  have e:cf rb*B=cf (rb.set j.toNat true)*B+B:=by rw [<- hc,nU,Es]
  simp only [List.length_cons,List.length_nil] at this
  omega
theorem RB.done {rb:List Bool} (h:RB nx L0 n B rb []) (i:Nat):rb.getD i false=true <-> Rn nx L0 i:=by
 refine ⟨h.snd1 i,fun hr=>?_⟩
 induction hr with
 | on hj=>rcases h.base _ hj with h|h;exact h;cases h
 | step _ hj ih=>rcases h.cl _ ih _ hj with h|h;exact h;cases h
end
theorem Qo {l:List Int} {x:Int} {n:Nat} (h:n=l.length):(l++[x]).getD n 0=x:=by subst h;simp
theorem Vg (g:FuncId) (A0:List HV) (n B:Nat) (nx:Nat->List Int) (L0:List Int) (hn:n<=2048) (hB:∀i,i<n->(nx i).length<=B) (hBb:B<=200000) (hl0:L0.length<=200000) (hin:∀i,i<n->∀j∈nx i,0<=j/\j<n) (hL:∀j∈L0,0<=j/\j<n)
  (hg:∀i:Nat,i<n->HT Try.prog g [.int .i64 i,.ptr A0 0] (fun r=>r=.sl (nx i).length (HL.ints (nx i)))) :
  HTM Try.prog 68 [.int .i64 n,.osl 1 L0.length (HL.ints L0),.fn g [.ptr A0 0]] (fun r=>∃rb,r=.osl 1 n (HL.bools rb)/\rb.length=n/\∀i,rb.getD i false=true <-> Rn nx L0 i):=by
 refine HTM.of rfl aeC (bF rfl) (⟨[(0,.int .i64 n),(1,.ref 0 [] 1 0 L0.length),(2,.fn g [.ptr A0 0])],[(0,.osl 1 L0.length (HL.ints L0))],1⟩:St) rfl ?_
 unfold c68
 refine zF ⟨?_⟩
 refine aF [1,2,7] (fun s:List Bool×List Int=>RB nx L0 n B s.1 s.2)
  (fun s=>⟨[(1,.ref 0 [] 1 0 s.2.length),(2,.fn g [.ptr A0 0]),(7,.ref 1 [] 1 0 n)],[(0,.osl 1 s.2.length (HL.ints s.2)),(1,.osl 1 n (HL.bools s.1))],2⟩)
  (fun s=>cf s.1*(B+1)+s.2.length) (List.replicate n false,L0) (.start hL) rfl ?_
 rintro ⟨rb,L⟩ hI
 simp only at hI ⊢
 have hrl:=hI.len
 have hfw:=hI.few
 have hnB:n*B<=2048*200000:=CV hn hBb
 rcases List.eq_nil_or_concat L with rfl|⟨L',j,rfl⟩
 ·refine zF ⟨?_⟩
  refine ae ?_
  exact ⟨rb,rfl,hrl,hI.done⟩
 ·rw [List.concat_eq_append] at hI hfw ⊢
  have hsn:(L'++[j]).length=L'.length+1:=by simp
  have hgv:(L'++[j]).getD L'.length 0=j:=Qo rfl
  have hz:(((L'.length+1:Nat):Int) - 1).toNat=L'.length:=by omega
  have hjr:=hI.inr j (by simp)
  rw [hsn] at hfw ⊢
  have htk:(HL.ints (L'++[j])).take (L'.length*1)=HL.ints L':=by
   rw [Nat.mul_one]
   simp [HL.ints]
  have hgj:=hg j.toNat (by omega)
  rw [Int.toNat_of_nonneg hjr.1] at hgj
  have hnl:=hB j.toNat (by omega)
  have hni:=hin j.toNat (by omega)
  have hjl:j.toNat<rb.length:=by omega
  refine fP (zA @hz @hgv) ⟨?_⟩
  refine Gq 1 [1,2,7,8,29] ⟨[(1,.ref 0 [] 1 0 L'.length),(2,.fn g [.ptr A0 0]),(7,.ref 1 [] 1 0 n),(8,.int .i64 j),(29,.bool (!rb.getD j.toNat false))],[(0,.osl 1 L'.length (HL.ints L')),(1,.osl 1 n (HL.bools rb))],2⟩ rfl rfl (by omega) (HL.ints_flat _) (by decide) (by rw [hz,htk];rfl) ?_
  cases hb:rb.getD j.toNat false with
  | true =>
   simp only [Bool.not_true]
   refine zF ⟨?_⟩
   exact aV [1,2,7] (rb,L') (hI.skip hb) iQ rfl
  | false =>
   simp only [Bool.not_false]
   have hadd:=hI.add hb hni hnl
   have hcf:=Kv rb _ hjl hb
   have hmu:cf rb*(B+1)=cf (rb.set j.toNat true)*(B+1)+(B+1):=by rw [<- hcf,nU,Es]
   refine zF ⟨?_⟩
   refine uH (by rfl) aG bz (hgj) ?_
   rintro _ rfl
   refine zG ⟨?_⟩
   generalize nx j.toNat=R at hnl hadd
   have hsr:(L'++R).length=L'.length+R.length:=dQ
   refine zF ⟨?_⟩
   exact aV [1,2,7] (rb.set j.toNat true,L'++R) hadd iQ (by rw [hsr];rfl)
def cnt (k:Nat->Bool) (i:Nat):Nat:=((List.range i).filter k).length
section
variable {k:Nat->Bool} {n i:Nat} {fin:List Bool}
end
end Go.Proofs.Ytlbdmpjnmfmnfaa
end
section
namespace Go.HL
open Go.RowKit
def ac9 (masks:List Nat) (all:List HOper) (i:Nat) (o:HOper) (W R:List Nat) (log:l7):Bool :=
 log.all fun q=>rq masks q.1 i || rq masks i q.1 || (match all[q.1]? with|some o'=>!U6 o' o|none=>true) || (W.all (fun x=>!q.2.2.contains x)&&q.2.1.all (fun x=>!R.contains x))
def Iu (masks:List Nat) (all:List HOper):List HOper->Nat->l7->(St->Prop)->St->Prop
 | [],_,_,K,s=>K s
 | o::r,i,log,K,s=>o.guard=none/\o.op.isCall=false/\(ah s.M (s.nx+stride*i) (o.op.map (bU s.S))).2.2 /\
   JY masks all i o (ah s.M (s.nx+stride*i) (o.op.map (bU s.S))).2.1 s.S log=true /\
   Iu masks all r (i+1) ((i,vP o s.S (ah s.M (s.nx+stride*i) (o.op.map (bU s.S))).2.1,qH o s.S)::log) K ((s.upd (ah s.M (s.nx+stride*i) (o.op.map (bU s.S))).2.1).put o.dst (ah s.M (s.nx+stride*i) (o.op.map (bU s.S))).1)
theorem PI {C:yH} {masks:List Nat} {all:List HOper} {K:St->Prop}:∀ {r:List HOper} {i:Nat} {log:l7} {s:St},Iu masks all r i log K s->yZ C masks all r i log K s:=by
 intro r
 induction r with
 | nil=>intro i log s h;exact h
 | cons o r ih =>
  intro i log s h
  obtain ⟨h1,h2,h3,h4,h5⟩:=h
  simp only [yZ]
  rw [h1]
  simp only
  unfold WC
  have hM:(fun i=>au i s.st)=s.M:=rfl
  rw [jd,hM]
  have nc:∀f xs,o.op.map (bU s.S)≠.call f xs:=fun f xs e=>by
   obtain ⟨d,op,g⟩:=o
   cases op<;>simp [HOp.map,HOp.isCall] at e h2
  have nv:∀f cap xs,o.op.map (bU s.S)≠.callv (.fn f cap) xs:=fun f cap xs e=>by
   obtain ⟨d,op,g⟩:=o
   cases op<;>simp [HOp.map,HOp.isCall] at e h2
  split
  ·rename_i f xs heq;exact absurd heq (nc f xs)
  ·rename_i f cap xs heq;exact absurd heq (nv f cap xs)
  ·exact ⟨h3,h4,ih h5⟩
theorem WT {masks:List Nat} {all:List HOper} {K:St->Prop} (hK:∀s s',Eqv s s'->K s->K s'):∀ {r:List HOper} {i:Nat} {log:l7} {s s':St},Eqv s s'->Iu masks all r i log K s->Iu masks all r i log K s':=by
 intro r
 induction r with
 | nil=>intro i log s s' he h;exact hK _ _ he h
 | cons o r ih =>
  intro i log s s' he h
  simp only [Iu] at h ⊢
  obtain ⟨e1,e2,e3⟩:=he
  rw [<- e1,<- e2,<- e3]
  exact ⟨h.1,h.2.1,h.2.2.1,h.2.2.2.1,ih (Eqv.upd ⟨e1,e2,e3⟩ _ _ _) h.2.2.2.2⟩
def GL (P:Program) (masks:List Nat) (all r:List HOper) (i:Nat) (log:l7) (k:List HI) (rs:List Nat) (K:HV->Prop) (sl st:List (Nat×HV)) (nx:Nat):Prop :=
 Iu masks all r i log (fun s1=>hk P k (finish rs K) .normal { s1 with nx:=s1.nx+stride*all.length }) ⟨sl,st,nx⟩
theorem Nb {P:Program} {k:List HI} {rs:List Nat} {K:HV->Prop} {sl st:List (Nat×HV)} {nx:Nat} {ops:List HOper} {masks:List Nat} (h1:lQ masks ops=true) (h:GL P masks ops ops 0 [] k rs K sl st nx):hx P (.c (.region (some masks) ops)::k) (finish rs K) ⟨sl,st,nx⟩:=by
 refine Ri (Weak.refl _) ?_
 refine ⟨h1,fun _=>.inl ⟨DS.of fun _ _ _=>False,?_⟩⟩
 have:=Vr (P:=P) (D:=fun _ _ _=>False) (masks:=masks) ops 0 [] ⟨sl,st,nx⟩ rfl rfl (PI h)
 rw [GI]
 exact this
theorem aaM {P:Program} {masks:List Nat} {all:List HOper} {i:Nat} {log:l7} {k:List HI} {rs:List Nat} {K:HV->Prop} {sl st:List (Nat×HV)} {nx n2:Nat} (hn:nx+stride*all.length=n2) (h:hx P k (finish rs K) ⟨sl,st,n2⟩):GL P masks all [] i log k rs K sl st nx:=by
 subst hn
 unfold GL Iu
 unfold hx at h
 exact h
theorem Qb {P:Program} {masks:List Nat} {all r:List HOper} {i:Nat} {log:l7} {k:List HI} {rs:List Nat} {K:HV->Prop} {sl st sl' st':List (Nat×HV)} {nx:Nat} {d:Option Nat} {op:HOp HX} {op':HOp HV} [hp:Plain k] (v:HV) (us:List Upd) {side:Prop} {W R:List Nat} (hnc:op.isCall=false) (ho:op.map (ev sl)=op') (h0:ah (fun j=>au j st) (nx+stride*i) op'=(v,us,side)) (hs:side)
  (hw:vP ⟨d,op,none⟩ (fun t=>au t sl) us=W) (hr:qH ⟨d,op,none⟩ (fun t=>au t sl)=R) (hc:ac9 masks all i ⟨d,op,none⟩ W R log=true) (hu:Ae d v (tV sl st us)=(sl',st')) (h:GL P masks all r (i+1) ((i,W,R)::log) k rs K sl' st' nx):GL P masks all (⟨d,op,none⟩::r) i log k rs K sl st nx:=by
 subst ho hw hr
 have e0:bU (St.S ⟨sl,st,nx⟩)=ev sl:=by rw [<- jd]
 have e:ah (St.M ⟨sl,st,nx⟩) (nx+stride*i) (op.map (bU (St.S ⟨sl,st,nx⟩)))=(v,us,side):=by rw [e0];exact h0
 have key:∀ (K0:St->Prop),(∀s s',Eqv s s'->K0 s->K0 s')->Iu masks all r (i+1) ((i,vP ⟨d,op,none⟩ (fun t=>au t sl) us,qH ⟨d,op,none⟩ (fun t=>au t sl))::log) K0 ⟨sl',st',nx⟩->Iu masks all (⟨d,op,none⟩::r) i log K0 ⟨sl,st,nx⟩:=by
  intro K0 hK0 hh
  refine ⟨rfl,hnc,?_,?_,?_⟩
  ·show (ah (St.M ⟨sl,st,nx⟩) (nx+stride*i) (op.map (bU (St.S ⟨sl,st,nx⟩)))).2.2
   rw [e];exact hs
  ·show JY masks all i ⟨d,op,none⟩ (ah (St.M ⟨sl,st,nx⟩) (nx+stride*i) (op.map (bU (St.S ⟨sl,st,nx⟩)))).2.1 (fun t=>au t sl) log=true
   rw [e];exact hc
  ·show Iu masks all r (i+1) ((i,vP ⟨d,op,none⟩ (fun t=>au t sl) (ah (St.M ⟨sl,st,nx⟩) (nx+stride*i) (op.map (bU (St.S ⟨sl,st,nx⟩)))).2.1,qH ⟨d,op,none⟩ (fun t=>au t sl))::log) K0 ((St.upd ⟨sl,st,nx⟩ (ah (St.M ⟨sl,st,nx⟩) (nx+stride*i) (op.map (bU (St.S ⟨sl,st,nx⟩)))).2.1).put d (ah (St.M ⟨sl,st,nx⟩) (nx+stride*i) (op.map (bU (St.S ⟨sl,st,nx⟩)))).1)
   rw [e]
   exact WT hK0 (mW hu) hh
 exact key _ (fun a b hab hh=>KH hp.plain (s:={ a with nx:=a.nx+stride*all.length }) (s':={ b with nx:=b.nx+stride*all.length }) ⟨hab.1,hab.2.1,congrArg (fun n=>n+stride*all.length) hab.2.2⟩ hh) h
theorem mD {P:Program} {masks:List Nat} {all r:List HOper} {i:Nat} {log:l7} {k:List HI} {rs:List Nat} {K:HV->Prop} {sl st:List (Nat×HV)} {nx t:Nat} {op:HOp HX} [hp:Plain k] (v:HV) (R:List Nat) {side:Prop} (hnc:op.isCall=false) (h0:ah (fun j=>au j st) (nx+stride*i) (op.map (ev sl))=(v,[],side)) (hs:side)
  (hr:qH ⟨some t,op,none⟩ (fun t=>au t sl)=R) (hc:ac9 masks all i ⟨some t,op,none⟩ [] R log=true) (h:GL P masks all r (i+1) ((i,[],R)::log) k rs K ((t,v)::sl) st nx):GL P masks all (⟨some t,op,none⟩::r) i log k rs K sl st nx :=
 Qb v [] hnc rfl h0 hs rfl hr hc rfl h
end Go.HL
end
section
namespace Go.Proofs.Ytlbdmpjnmfmnfaa
open Go.RowKit Go.HL Go.FS
def iT (ll:List (List Int)):List HV:=ll.map fun l=>.sl l.length (HL.ints l)
def iO (ll:List (List Int)):List HV:=ll.map fun l=>.osl 1 l.length (HL.ints l)
theorem abS (ll:List (List Int)):(iT ll).length=ll.length:=by simp [iT]
theorem Ed (ll:List (List Int)):(iO ll).length=ll.length:=by simp [iO]
theorem yG (ll:List (List Int)):stripL (iO ll)=iT ll:=by
 induction ll with
 | nil=>rfl
 | cons l ll ih=>simp only [iO,dP,stripL,HV.strip,HL.ints_strip,iT] at ih ⊢;rw [ih]
theorem fE (ll:List (List Int)):stripL (iT ll)=iT ll:=by
 induction ll with
 | nil=>rfl
 | cons l ll ih=>simp only [iT,dP,stripL,HV.strip,HL.ints_strip] at ih ⊢;rw [ih]
theorem yK (ll:List (List Int)) {i:Nat} (h:i<ll.length):(iT ll).getD i .dead=.sl (ll.getD i []).length (HL.ints (ll.getD i [])):=by simp [iT,h]
theorem acR (n:Nat):(List.replicate n [HV.osl 1 0 []]).flatten=iO (List.replicate n []):=by
 induction n with
 | zero=>rfl
 | succ n ih=>rw [Hr,Ol,ih];rfl
theorem FC (ll:List (List Int)):aQ (iT ll)=[]:=by
 induction ll with
 | nil=>rfl
 | cons l ll ih=>simp only [iT,dP,aQ,HV.deep,pX,List.nil_append] at ih ⊢;exact ih
attribute [go_sem] abS Ed yG fE yK acR
theorem Jf {L:Lk} {fr sz bytes id sz2 off n m n2 s2:Nat} {fl:Bool} {p:List Nat} {w:HV} {ws cs:List HV} {us:List Upd} {cond:Prop} (hn:dI L fl sz w=(m,ws,us,cond)) (hg:ax ((L.upd us) id) p=.osl s2 n2 cs):ah L fr (.app fl sz bytes (.ref id p sz2 off n) w) =
  (.ref fr [] sz 0 (n+m),us++[.put id (dh .dead ((L.upd us) id) p),.put fr (.osl sz (n+m) (win cs off (n*sz)++ws))],cond/\(n+m)*bytes<=140737488355328/\n+m<=maxLen/\sz2=sz/\off+n*sz<=cs.length):=by
 simp only [ah,hn,hg]
end Go.Proofs.Ytlbdmpjnmfmnfaa
end
section
namespace Go.Proofs.Ytlbdmpjnmfmnfaa
open Go.RowKit Go.HL
theorem wP (n:Int) (m:Nat) (hm:0<m) (hm2:m<=1099511627776) (h1 : -9223372036854775808<=n) (h2:n<=9223372036854775807):HT Try.prog 16 [.int .i64 n,.int .i64 m] (fun r=>∃y:Nat,r=.int .i64 y/\y<m):=by
 refine HT.of rfl aeY (bF rfl) ?_
 unfold c16
 simp only [ay,Nat.reduceAdd]
 by_cases h0:n<0
 ·obtain ⟨x,hx⟩:∃x:Nat,0 - (n+1)=x:=⟨(-(n+1)).toNat,by omega⟩
  have ht:(x:Int).tmod m=((x % m:Nat):Int):=(Int.ofNat_tmod x m).symm
  have hlt:=Nat.mod_lt x hm
  repeat (first|refine AB af rfl ?_|refine rD bP ?_|refine bg ?_|refine aU ?_|refine uk (by rfl) (by rfl) DR ?_|refine fM (by rfl) ?_|refine sQ (by rfl) (by rfl) (by (try simp (disch:=omega) only [go_sem,Int.reduceAdd,Int.reduceSub,Int.reduceMul,hx,ht]);try rfl) ?_|refine ww (by rfl) (by rfl) (by omega) (by (try simp (disch:=omega) only [go_sem,Int.reduceAdd,Int.reduceSub,Int.reduceMul,hx,ht]);try rfl) ?_|refine wZ (by rfl) (by (try simp (disch:=omega) only [go_sem,Int.reduceAdd,Int.reduceSub,Int.reduceMul,hx,ht]);try rfl) ?_)
  refine ae ?_
  exact ⟨x % m,rfl,hlt⟩
 ·obtain ⟨x,rfl⟩:∃x:Nat,n=x:=⟨n.toNat,by omega⟩
  have ht:(x:Int).tmod m=((x % m:Nat):Int):=(Int.ofNat_tmod x m).symm
  have hlt:=Nat.mod_lt x hm
  refine fP @ht ⟨?_⟩
  refine ae ?_
  exact ⟨x % m,rfl,hlt⟩
theorem LU (l:List Int) (i:Nat) (m:Nat) (hm:0<m) (hm2:m<=1099511627776) (hi:i<=1000000) (hl:l.length<=9223372036854775807) (hr:∀k,k<l.length -> -9223372036854775808<=l.getD k 0/\l.getD k 0<=9223372036854775807):HT Try.prog 50 [I l,.int .i64 i,.int .i64 m] (fun r=>∃y:Nat,r=.int .i64 y/\y<m):=by
 refine HT.of rfl aea (bF rfl) ?_
 unfold c50
 simp only [I,ay,Nat.reduceAdd]
 by_cases hil:i<l.length
 ·have:=hr i hil
  refine zF ⟨?_⟩
  refine aX aG bz (wP (l.getD i 0) m hm hm2 this.1 this.2) ?_
  rintro _ ⟨y,rfl,hy⟩
  refine zG ⟨?_⟩
  refine zF ⟨?_⟩
  refine ae ?_
  exact ⟨y,rfl,hy⟩
 ·refine zF ⟨?_⟩
  refine ae ?_
  exact ⟨0,rfl,hm⟩
end Go.Proofs.Ytlbdmpjnmfmnfaa
end
