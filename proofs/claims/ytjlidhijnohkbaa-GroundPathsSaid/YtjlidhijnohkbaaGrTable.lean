import Derived.Test.YtjlidhijnohkbaaGrSteps
import Derived.Test.YtjlidhijnohkbaaHlW
set_option linter.unusedSimpArgs false
set_option linter.unusedVariables false
set_option maxHeartbeats 8000000
namespace Go.Proofs.Ytjlidhijnohkbaa
open Go.RowKit Go.HL
def jy (l:List (List Int)):List HV:=l.map fun r=>.osl 1 r.length (HL.ints r)
theorem CP (l:List (List Int)):(jy l).length=l.length:=by simp [jy]
theorem Kv (l:List (List Int)) {i:Nat} (h:i<l.length):(jy l).getD i .dead=.osl 1 (l.getD i []).length (HL.ints (l.getD i [])):=by simp [jy,h]
theorem KJ (l:List (List Int)) {n:Nat} (h:n=l.length):win (jy l) 0 n=jy l:=kY _ (by rw [CP];exact h)
theorem Ik (l:List (List Int)) (x:List Int) {m:Nat} (h:m=x.length):jy l++[.osl 1 m (HL.ints x)]=jy (l++[x]):=by subst h;simp [jy]
theorem xB (l:List (List Int)):stripL (jy l)=aO l:=by
 induction l with
 | nil=>rfl
 | cons a l ih=>unfold jy aO at ih ⊢;simp only [iy,stripL,HV.strip,HL.ints_strip,ih]
attribute [go_sem] Kv CP KJ
def Jt (bad:List Bool) (ds:List (List Int)) (u k:Nat):Prop:=bad.getD u false=false/\bad.getD k false=false/\0<=(ds.getD k []).getD u 0
structure Rt (bad:List Bool) (ds:List (List Int)) (n:Nat) (P:Nat->Nat->Prop) (round:List Int):Prop where
 len:round.length=n
 low:∀k,k<n->0<=round.getD k 0
 from_:∀k,k<n->0<round.getD k 0->∃u,P u k/\Jt bad ds u k/\round.getD k 0=(ds.getD k []).getD u 0+1
 least:∀k,k<n->∀u,P u k->Jt bad ds u k->0<round.getD k 0/\round.getD k 0<=(ds.getD k []).getD u 0+1
section
variable {bad:List Bool} {ds:List (List Int)} {n u k:Nat} {P Q:Nat->Nat->Prop} {round:List Int}
theorem Rt.congr (s:Rt bad ds n P round) (h:∀u k,P u k <-> Q u k):Rt bad ds n Q round:=by
 have:P=Q:=by funext u k;exact propext (h u k)
 subst this;exact s
theorem Rt.keep (s:Rt bad ds n P round) (h:Jt bad ds u k->0<round.getD k 0/\round.getD k 0<=(ds.getD k []).getD u 0+1):Rt bad ds n (fun a b=>P a b\/(a=u/\b=k)) round:=by
 refine ⟨s.len,s.low,fun b hb h0=>?_,fun b hb a hp he=>?_⟩
 ·obtain ⟨a,h1,h2⟩:=s.from_ b hb h0;exact ⟨a,.inl h1,h2⟩
 ·rcases hp with hp|⟨rfl,rfl⟩
  ·exact s.least b hb a hp he
  ·exact h he
theorem Rt.put (s:Rt bad ds n P round) (hk:k<n) (hu:Jt bad ds u k) (hr:round.getD k 0=0\/(ds.getD k []).getD u 0+1<round.getD k 0):Rt bad ds n (fun a b=>P a b\/(a=u/\b=k)) (round.set k ((ds.getD k []).getD u 0+1)):=by
 have hg:∀v,(round.set k ((ds.getD k []).getD u 0+1)).getD v 0=if k=v then (ds.getD k []).getD u 0+1 else round.getD v 0:=fun v=>gJ _ _ _ _ _ (by rw [s.len];exact hk)
 have h0:=hu.2.2
 refine ⟨by simpa using s.len,fun b hb=>?_,fun b hb h=>?_,fun b hb a hp he=>?_⟩
 ·rw [hg];split;omega;exact s.low b hb
 ·rw [hg] at h ⊢
  by_cases e:k=b
  ·subst e;rw [if_pos rfl];exact ⟨u,.inr ⟨rfl,rfl⟩,hu,rfl⟩
  ·rw [if_neg e] at h ⊢
   obtain ⟨a,h1,h2⟩:=s.from_ b hb h;exact ⟨a,.inl h1,h2⟩
 ·rw [hg]
  by_cases e:k=b
  ·subst e;rw [if_pos rfl]
   refine ⟨by omega,?_⟩
   rcases hp with hp|⟨rfl,_⟩
   ·have:=s.least k hb a hp he;omega
   ·omega
  ·rw [if_neg e]
   rcases hp with hp|⟨_,rfl⟩
   ·exact s.least b hb a hp he
   ·exact absurd rfl e
end
structure IsTable (nd:List (List Nat)) (bad:List Bool) (ds:List (List Int)) (round:List Int):Prop where
 len:ds.length=nd.length
 dist:∀i,i<nd.length->IsDist nd bad i (ds.getD i [])
 round_:Rt bad ds nd.length (fun u k=>k∈nd.getD u []) round
theorem EY (nd:List (List Nat)) (bad:List Bool) (g:Gr nd bad):HT Try.prog 33 [Gs (nd.map nl),Bl bad] (fun r=>∃ds round,r=.tup [.osl 1 nd.length (jy ds),.osl 1 nd.length (HL.ints round)]/\IsTable nd bad ds round):=by
 have hsz:=g.size
 have hbl:=g.bads
 have hnl:(nd.map nl).length=nd.length:=by simp
 refine HT.of rfl Sj (gZ rfl) ?_
 unfold TN
 simp only [Gs,Bl,aB,Nat.reduceAdd]
 rw [hnl,hbl]
 refine zF ⟨?_⟩
 refine aQ [0,1,6,14,15] (fun s:Nat×List (List Int)=>s.1<=nd.length/\s.2.length=s.1/\∀i,i<s.1->IsDist nd bad i (s.2.getD i []))
  (fun s=>⟨[(0,.sl nd.length (aO (nd.map nl))),(1,.sl nd.length (HL.bools bad)),(6,.ref 0 [] 1 0 s.1),(14,.int .i64 nd.length),(15,.int .i64 s.1)],[(0,.osl 1 s.1 (jy s.2))],1⟩) (fun s=>nd.length - s.1) (0,[]) ⟨by simp,rfl,by simp⟩ rfl ?_
 rintro ⟨i,ds⟩ ⟨hi,hdl,hd⟩
 simp only at hi hdl hd ⊢
 by_cases hin:i<nd.length
 ·refine zF ⟨?_⟩
  refine bU aY (by simp (disch:=omega) only [bI,Gs,hnl,hbl,HV.thaw,bn,au,ah,if_true,if_false,reduceIte,Nat.reduceEqDiff,stripL,HV.strip,dQ,cO,Nat.mul_one,List.cons_append,List.nil_append,List.append_nil,I,Bl,T3,List.getD_cons_zero,List.getD_cons_succ,HL.ints_strip,HL.bools_strip,dF];try rfl) (Ll nd bad g i hin) ?_
  rintro _ ⟨out,rfl,hO⟩
  have hol:=hO.len
  have hsn:=Ik ds out hol.symm
  refine zG ⟨?_⟩
  refine kE @hsn ⟨?_⟩
  refine bg [0,1,6,14,15] (i+1,ds++[out]) ⟨hin,by simp [hdl],fun j hj=>?_⟩ dD rfl
  simp only
  by_cases e:j<i
  ·have:(ds++[out]).getD j []=ds.getD j []:=by
    rw [dW,FU (by omega),<- dW]
   rw [this];exact hd j e
  ·obtain rfl:j=i:=by simp only at hj;omega
   have:(ds++[out]).getD j []=out:=by
    rw [dW,List.getElem?_append_right (by omega),hdl];simp
   rw [this];exact hO
 ·obtain rfl:i=nd.length:=by omega
  refine zF ⟨?_⟩
  have hrl:(List.replicate nd.length (0:Int)).length=nd.length:=by simp
  refine aQ [0,1,6,8,29,30,31] (fun s:Nat×List Int=>s.1<=nd.length/\Rt bad ds nd.length (fun u k=>u<s.1/\k∈nd.getD u []) s.2)
   (fun s=>⟨[(0,.sl nd.length (aO (nd.map nl))),(1,.sl nd.length (HL.bools bad)),(6,.ref 0 [] 1 0 nd.length),(8,.ref 1 [] 1 0 nd.length),(29,.sl nd.length (aO (nd.map nl))),(30,.int .i64 nd.length),(31,.int .i64 s.1)],[(0,.osl 1 nd.length (jy ds)),(1,.osl 1 nd.length (HL.ints s.2))],2⟩)
   (fun s=>nd.length - s.1) (0,List.replicate nd.length 0) ⟨by simp,⟨hrl,fun k hk=>by simp [hk],fun k hk h=>by simp [hk] at h,fun k _ u hu=>absurd hu.1 (by simp)⟩⟩ rfl ?_
  rintro ⟨u,round⟩ ⟨hu,hR⟩
  simp only at hu hR ⊢
  by_cases hun:u<nd.length
  ·have hru:=bH (nd.getD u [])
   have hgu:=g.len u
   refine kE @aK ⟨?_⟩
   refine aQ [0,1,6,8,9,29,30,31,36,37,38] (fun s:Nat×List Int=>s.1<=(nd.getD u []).length/\Rt bad ds nd.length (fun a b=>(a<u/\b∈nd.getD a [])\/(a=u/\b∈(nd.getD u []).take s.1)) s.2)
    (fun s=>⟨[(0,.sl nd.length (aO (nd.map nl))),(1,.sl nd.length (HL.bools bad)),(6,.ref 0 [] 1 0 nd.length),(8,.ref 1 [] 1 0 nd.length),(9,.int .i64 u),(29,.sl nd.length (aO (nd.map nl))),(30,.int .i64 nd.length),(31,.int .i64 u),(36,.sl (nd.getD u []).length (HL.ints (nl (nd.getD u [])))),(37,.int .i64 (nd.getD u []).length),(38,.int .i64 s.1)],[(0,.osl 1 nd.length (jy ds)),(1,.osl 1 nd.length (HL.ints s.2))],2⟩)
    (fun s=>(nd.getD u []).length - s.1) (0,round) ⟨by simp,hR.congr fun a b=>by simp⟩ rfl ?_
   clear hR
   clear round
   rintro ⟨e,round⟩ ⟨he,hR⟩
   simp only at he hR ⊢
   have hrl2:=hR.len
   by_cases hel:e<(nd.getD u []).length
   ·have hkm:=getD_mem (nd.getD u []) e 0 hel
    have hkn:=g.lt u _ hkm
    have nx:∀a b,((((a<u/\b∈nd.getD a [])\/(a=u/\b∈(nd.getD u []).take e))\/(a=u/\b=(nd.getD u []).getD e 0)) <-> ((a<u/\b∈nd.getD a [])\/(a=u/\b∈(nd.getD u []).take (e+1)))):=fun a b=>by
     rw [aT _ _ 0 hel,zl001,zl019]
     constructor
     ·rintro ((h|⟨h1,h2⟩)|⟨h1,h2⟩)
      ·exact .inl h
      ·exact .inr ⟨h1,.inl h2⟩
      ·exact .inr ⟨h1,.inr h2⟩
     ·rintro (h|⟨h1,h2|h2⟩)
      ·exact .inl (.inl h)
      ·exact .inl (.inr ⟨h1,h2⟩)
      ·exact .inr ⟨h1,h2⟩
    have hdk:=(hd _ hkn).len
    have hlow:=(hd _ hkn).low u hun
    have hrk:=hR.low _ hkn
    have hkeep:=hR.keep (u:=u) (k:=(nd.getD u []).getD e 0)
    have hput:=hR.put (u:=u) hkn
    generalize hk:(nd.getD u []).getD e 0=k at hkm hkn nx hdk hlow hrk hkeep hput
    generalize hD:(ds.getD k []).getD u 0=D at hlow hkeep hput
    generalize hr:round.getD k 0=r at hrk hkeep hput
    have skip:¬ Jt bad ds u k->Rt bad ds nd.length _ round:=fun h=>(hkeep fun h'=>absurd h' h).congr nx
    cases hbu:bad.getD u false with
    | true =>
     repeat (first|refine l7 ag rfl ?_|refine iZ dP ?_|refine aW ?_|refine dC ?_|refine jF (by rfl) (by rfl) uQ ?_|refine dN ?_|refine dZ (by rfl) ?_|refine dV ?_|refine kw (by rfl) (by rfl) (by (try simp (disch:=omega) only [go_sem,Int.reduceAdd,Int.reduceSub,Int.reduceMul,hk,hbu]);try rfl) ?_|refine jH (by rfl) aF (by (try simp (disch:=omega) only [go_sem,hk,hbu]);try rfl) ?_|refine dK ?_|refine iY (by rfl) ag ?_|refine gu (by rfl) ?_|refine uX (by rfl) (by rfl) ?_)
     exact bg [0,1,6,8,9,29,30,31,36,37,38] (e+1,round) ⟨hel,skip fun h=>by rw [h.1] at hbu;cases hbu⟩ dD rfl
    | false =>
     cases hbk:bad.getD k false with
     | true =>
      repeat (first|refine l7 ag rfl ?_|refine iZ dP ?_|refine aW ?_|refine dC ?_|refine jF (by rfl) (by rfl) uQ ?_|refine dN ?_|refine dZ (by rfl) ?_|refine kQ (by rfl) (by rfl) ?_|refine dV ?_|refine kw (by rfl) (by rfl) (by (try simp (disch:=omega) only [go_sem,Int.reduceAdd,Int.reduceSub,Int.reduceMul,hk,hbu,hbk]);try rfl) ?_|refine jH (by rfl) aF (by (try simp (disch:=omega) only [go_sem,hk,hbu,hbk]);try rfl) ?_|refine dK ?_|refine iY (by rfl) ag ?_|refine gy (by rfl) ag ?_|refine gu (by rfl) ?_|refine uX (by rfl) (by rfl) ?_)
      exact bg [0,1,6,8,9,29,30,31,36,37,38] (e+1,round) ⟨hel,skip fun h=>by rw [h.2.1] at hbk;cases hbk⟩ dD rfl
     | false =>
      by_cases hD0:D<0
      ·repeat (first|refine l7 ag rfl ?_|refine iZ dP ?_|refine aW ?_|refine dC ?_|refine jF (by rfl) (by rfl) uQ ?_|refine dN ?_|refine dZ (by rfl) ?_|refine kQ (by rfl) (by rfl) ?_|refine dV ?_|refine jA (by rfl) bz (by (try simp (disch:=omega) only [go_sem,reduceIte,Nat.reduceEqDiff,Nat.reduceAdd,Nat.reduceMul,hk,hbu,hbk,hD]);try rfl) aF (by (try simp (disch:=omega) only [go_sem,hk,hbu,hbk,hD]);try rfl) ag ?_|refine kw (by rfl) (by rfl) (by (try simp (disch:=omega) only [go_sem,Int.reduceAdd,Int.reduceSub,Int.reduceMul,hk,hbu,hbk,hD]);try rfl) ?_|refine jH (by rfl) aF (by (try simp (disch:=omega) only [go_sem,hk,hbu,hbk,hD]);try rfl) ?_|refine dK ?_|refine gy (by rfl) ag ?_|refine gu (by rfl) ?_|refine dE ?_)
       exact bg [0,1,6,8,9,29,30,31,36,37,38] (e+1,round) ⟨hel,skip fun h=>by have:=h.2.2;omega⟩ dD rfl
      ·have huse:Jt bad ds u k:=⟨hbu,hbk,by omega⟩
       by_cases hr0:r=0
       ·repeat (first|refine l7 ag rfl ?_|refine iZ dP ?_|refine aW ?_|refine dC ?_|refine jF (by rfl) (by rfl) uQ ?_|refine dN ?_|refine dZ (by rfl) ?_|refine eG (by rfl) ?_|refine kQ (by rfl) (by rfl) ?_|refine dV ?_|refine jA (by rfl) bz (by (try simp (disch:=omega) only [go_sem,reduceIte,Nat.reduceEqDiff,Nat.reduceAdd,Nat.reduceMul,hk,hbu,hbk,hD,hr]);try rfl) aF (by (try simp (disch:=omega) only [go_sem,hk,hbu,hbk,hD,hr]);try rfl) ag ?_|refine jH (by rfl) aF (by (try simp (disch:=omega) only [go_sem,hk,hbu,hbk,hD,hr]);try rfl) ?_|refine dK ?_|refine gy (by rfl) ag ?_|refine dE ?_)
        refine iL bM bM (fun _ _ _=>False) ?_
        repeat (first|refine l7 ag rfl ?_|refine iZ dP ?_|refine aW ?_|refine dZ (by rfl) ?_|refine jA (by rfl) bz (by (try simp (disch:=omega) only [go_sem,reduceIte,Nat.reduceEqDiff,Nat.reduceAdd,Nat.reduceMul,hk,hbu,hbk,hD,hr]);try rfl) aF (by (try simp (disch:=omega) only [go_sem,hk,hbu,hbk,hD,hr]);try rfl) ag ?_|refine kw (by rfl) (by rfl) (by (try simp (disch:=omega) only [go_sem,Int.reduceAdd,Int.reduceSub,Int.reduceMul,hk,hbu,hbk,hD,hr]);try rfl) ?_|refine tZ ?_|refine iY (by rfl) ag ?_|refine ni (by rfl) (by rfl) ny ?_|refine uX (by rfl) (by rfl) ?_|refine wQ (by rfl) ag ax eH (by rfl) (by decide) bz ax aF (by (try simp (disch:=omega) only [go_sem,hk,hbu,hbk,hD,hr]);try rfl) ax ?_|refine dE ?_)
        exact bg [0,1,6,8,9,29,30,31,36,37,38] (e+1,_) ⟨hel,(hput huse (.inl hr0)).congr nx⟩ dD rfl
       ·by_cases hlt:D+1<r
        ·repeat (first|refine l7 ag rfl ?_|refine iZ dP ?_|refine aW ?_|refine dC ?_|refine jF (by rfl) (by rfl) uQ ?_|refine dN ?_|refine dZ (by rfl) ?_|refine eG (by rfl) ?_|refine kQ (by rfl) (by rfl) ?_|refine dV ?_|refine jA (by rfl) bz (by (try simp (disch:=omega) only [go_sem,reduceIte,Nat.reduceEqDiff,Nat.reduceAdd,Nat.reduceMul,hk,hbu,hbk,hD,hr]);try rfl) aF (by (try simp (disch:=omega) only [go_sem,hk,hbu,hbk,hD,hr]);try rfl) ag ?_|refine jH (by rfl) aF (by (try simp (disch:=omega) only [go_sem,hk,hbu,hbk,hD,hr]);try rfl) ?_|refine dK ?_|refine gy (by rfl) ag ?_|refine dE ?_)
         refine iL bM bM (fun _ _ _=>False) ?_
         repeat (first|refine l7 ag rfl ?_|refine iZ dP ?_|refine aW ?_|refine jF (by rfl) (by rfl) uQ ?_|refine dZ (by rfl) ?_|refine kQ (by rfl) (by rfl) ?_|refine jA (by rfl) bz (by (try simp (disch:=omega) only [go_sem,reduceIte,Nat.reduceEqDiff,Nat.reduceAdd,Nat.reduceMul,hk,hbu,hbk,hD,hr]);try rfl) aF (by (try simp (disch:=omega) only [go_sem,hk,hbu,hbk,hD,hr]);try rfl) ag ?_|refine kw (by rfl) (by rfl) (by (try simp (disch:=omega) only [go_sem,Int.reduceAdd,Int.reduceSub,Int.reduceMul,hk,hbu,hbk,hD,hr]);try rfl) ?_|refine tZ ?_|refine gy (by rfl) ag ?_|refine ni (by rfl) (by rfl) ny ?_|refine wQ (by rfl) ag ax eH (by rfl) (by decide) bz ax aF (by (try simp (disch:=omega) only [go_sem,hk,hbu,hbk,hD,hr]);try rfl) ax ?_|refine dE ?_)
         exact bg [0,1,6,8,9,29,30,31,36,37,38] (e+1,_) ⟨hel,(hput huse (.inr hlt)).congr nx⟩ dD rfl
        ·repeat (first|refine l7 ag rfl ?_|refine iZ dP ?_|refine aW ?_|refine dC ?_|refine jF (by rfl) (by rfl) uQ ?_|refine dN ?_|refine dZ (by rfl) ?_|refine eG (by rfl) ?_|refine kQ (by rfl) (by rfl) ?_|refine dV ?_|refine jA (by rfl) bz (by (try simp (disch:=omega) only [go_sem,reduceIte,Nat.reduceEqDiff,Nat.reduceAdd,Nat.reduceMul,hk,hbu,hbk,hD,hr]);try rfl) aF (by (try simp (disch:=omega) only [go_sem,hk,hbu,hbk,hD,hr]);try rfl) ag ?_|refine jH (by rfl) aF (by (try simp (disch:=omega) only [go_sem,hk,hbu,hbk,hD,hr]);try rfl) ?_|refine dK ?_|refine gy (by rfl) ag ?_|refine dE ?_)
         refine iL bM bM (fun _ _ _=>False) ?_
         repeat (first|refine l7 ag rfl ?_|refine iZ dP ?_|refine aW ?_|refine jF (by rfl) (by rfl) uQ ?_|refine dN ?_|refine eG (by rfl) ?_|refine kQ (by rfl) (by rfl) ?_|refine jA (by rfl) bz (by (try simp (disch:=omega) only [go_sem,reduceIte,Nat.reduceEqDiff,Nat.reduceAdd,Nat.reduceMul,hk,hbu,hbk,hD,hr]);try rfl) aF (by (try simp (disch:=omega) only [go_sem,hk,hbu,hbk,hD,hr]);try rfl) ag ?_|refine kw (by rfl) (by rfl) (by (try simp (disch:=omega) only [go_sem,Int.reduceAdd,Int.reduceSub,Int.reduceMul,hk,hbu,hbk,hD,hr]);try rfl) ?_|refine tZ ?_|refine gy (by rfl) ag ?_|refine ni (by rfl) (by rfl) ny ?_|refine dE ?_)
         exact bg [0,1,6,8,9,29,30,31,36,37,38] (e+1,round) ⟨hel,(hkeep fun _=>⟨by omega,by omega⟩).congr nx⟩ dD rfl
   ·obtain rfl:e=(nd.getD u []).length:=by omega
    refine zF ⟨?_⟩
    refine bg [0,1,6,8,29,30,31] (u+1,round) ⟨hun,hR.congr fun a b=>?_⟩ dD rfl
    rw [lV]
    constructor
    ·rintro (⟨h1,h2⟩|⟨rfl,h2⟩)
     ·exact ⟨by omega,h2⟩
     ·exact ⟨by omega,h2⟩
    ·rintro ⟨h1,h2⟩
     by_cases e:a=u
     ·subst e;exact .inr ⟨rfl,h2⟩
     ·exact .inl ⟨by omega,h2⟩
  ·obtain rfl:u=nd.length:=by omega
   refine zF ⟨?_⟩
   refine az ?_
   refine ⟨ds,round,rfl,hdl,hd,hR.congr fun a b=>⟨fun h=>h.2,fun h=>⟨?_,h⟩⟩⟩
   apply Nq
   intro hn
   have:nd.getD a []=[]:=by rw [dW,jb (by omega)];rfl
   rw [this] at h;cases h
end Go.Proofs.Ytjlidhijnohkbaa
