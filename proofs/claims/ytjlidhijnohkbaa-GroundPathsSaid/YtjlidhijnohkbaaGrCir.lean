import Derived.Test.YtjlidhijnohkbaaGrNumP
import Derived.Test.YtjlidhijnohkbaaGrWit2
import Derived.Test.YtjlidhijnohkbaaHlRo
import Derived.Test.YtjlidhijnohkbaaHlW
set_option linter.unusedSimpArgs false
set_option linter.unusedVariables false
set_option maxHeartbeats 8000000
namespace Go.Proofs.Ytjlidhijnohkbaa
open Go.RowKit Go.HL
def uo (bad:List Bool) (ds:List (List Int)) (round:List Int) (f:Nat) (len:Nat) (v:Nat):Bool:=!bad.getD v false&&decide (dd ds v f=round.getD f 0 - len)
theorem IsTable.top {nd:List (List Nat)} {bad:List Bool} {ds:List (List Int)} {round:List Int} (t:IsTable nd bad ds round) (g:Gr nd bad):∀u,u<nd.length->round.getD u 0<=257:=fun u hu=>by
 by_cases h:0<round.getD u 0
 ·obtain ⟨a,h1,h2,h3⟩:=t.round_.from_ u hu h
  have ha:a<nd.length:=by
   apply Nq
   intro hn
   have:nd.getD a []=[]:=by rw [dW,jb (by omega)];rfl
   rw [this] at h1;cases h1
  have:=((t.dist u hu).low a ha).2
  have:=g.size
  omega
 ·omega
theorem Lr (nd:List (List Nat)) (bad:List Bool) (ds:List (List Int)) (round:List Int) (f:Nat) (path:List Nat) (g:Gr nd bad) (t:IsTable nd bad ds round) (hf:f<nd.length) (hp:path.length<=300) (v:Nat) (hv:v<nd.length) :
  HT Try.prog 37 [.int .i64 v,.ptr [Bl bad] 0,.ptr [Gs ds] 0,.ptr [.int .i64 f] 0,.ptr [I round] 0,.ptr [I (nl path)] 0] (fun r=>r=.bool (uo bad ds round f path.length v)):=by
 have hsz:=g.size
 have hbl:=g.bads
 have hdl:=t.len
 have hrl:=t.round_.len
 have hvl:=(t.dist v hv).len
 have hlow:=(t.dist v hv).low f hf
 have hrlow:=t.round_.low f hf
 have hrtop:=t.top g f hf
 have hnp:=bH path
 refine HT.of rfl Rz (gZ rfl) ?_
 unfold c37
 simp only [Gs,Bl,I,aB,Nat.reduceAdd]
 rw [hbl,hdl,hrl,hnp]
 have hdd:dd ds v f=(ds.getD v []).getD f 0:=rfl
 unfold uo
 rw [hdd]
 generalize hdv:ds.getD v []=dv at hvl hlow
 cases hb:bad.getD v false with
 | true =>
  refine kE (zA @hdv @hb) ⟨?_⟩
  refine iL bM bM (fun _ _ _=>False) ?_
  refine kE (zA @hdv @hb) ⟨?_⟩
  refine az ?_
  rfl
 | false =>
  refine kE (zA @hdv @hb) ⟨?_⟩
  refine iL bM bM (fun _ _ _=>False) ?_
  refine kE (zA @hdv @hb) ⟨?_⟩
  refine az ?_
  rfl
theorem G9 (nd:List (List Nat)) (bad:List Bool) (ds:List (List Int)) (round:List Int) (f:Nat) (path:List Nat) (g:Gr nd bad) (t:IsTable nd bad ds round) (hf:f<nd.length) (hp:path.length<=300) (l:List Nat) (hl:l.length<=300) (hlt:∀x∈l,x<nd.length) :
  HT Try.prog 36 [I (nl l),.fn 37 [.ptr [Bl bad] 0,.ptr [Gs ds] 0,.ptr [.int .i64 f] 0,.ptr [I round] 0,.ptr [I (nl path)] 0]] (fun r=>(∃q:Nat,r=.int .i64 q/\q<l.length/\uo bad ds round f path.length (l.getD q 0)=true/\∀e,e<q->uo bad ds round f path.length (l.getD e 0)=false)\/(r=.int .i64 (-1)/\∀e,e<l.length->uo bad ds round f path.length (l.getD e 0)=false)):=by
 have hnp:=bH l
 have hC:∀v:Nat,v<nd.length->HT Try.prog 37 (.int .i64 v::[.ptr [Bl bad] 0,.ptr [Gs ds] 0,.ptr [.int .i64 f] 0,.ptr [I round] 0,.ptr [I (nl path)] 0]) (fun r=>r=.bool (uo bad ds round f path.length v)):=fun v hv=>Lr nd bad ds round f path g t hf hp v hv
 generalize uo bad ds round f path.length=G at hC ⊢
 refine HT.of rfl QN (gZ rfl) ?_
 unfold Tn
 simp only [I,aB,Nat.reduceAdd]
 rw [hnp]
 refine zF ⟨?_⟩
 refine aQ [0,1,7,8] (fun e:Nat=>e<=l.length/\∀q,q<e->G (l.getD q 0)=false) (fun e=>⟨[(0,.sl l.length (HL.ints (nl l))),(1,.fn 37 [.ptr [Bl bad] 0,.ptr [Gs ds] 0,.ptr [.int .i64 f] 0,.ptr [I round] 0,.ptr [I (nl path)] 0]),(7,.int .i64 l.length),(8,.int .i64 e)],[],0⟩) (fun e=>l.length - e) 0 ⟨by omega,fun q hq=>absurd hq (by omega)⟩ rfl ?_
 rintro e ⟨he,hno⟩
 by_cases hel:e<l.length
 ·obtain ⟨v,hv⟩:∃v,l.getD e 0=v:=⟨_,rfl⟩
  have hvn:v<nd.length:=by rw [<- hv];exact hlt _ (getD_mem _ _ 0 hel)
  refine kE @hv ⟨?_⟩
  refine ou (by rfl) aY iQ (hC v hvn) ?_
  rintro _ rfl
  refine zG ⟨?_⟩
  cases hG:G v with
  | true =>
   refine zF ⟨?_⟩
   refine az ?_
   exact .inl ⟨e,rfl,hel,by rw [hv];exact hG,hno⟩
  | false =>
   refine zF ⟨?_⟩
   exact bg [0,1,7,8] (e+1) ⟨hel,fun q hq=>by
    by_cases e1:q=e
    ·subst e1;rw [hv];exact hG
    ·exact hno q (by omega)⟩ (by omega) rfl
 ·obtain rfl:e=l.length:=by omega
  refine zF ⟨?_⟩
  refine az ?_
  exact .inr ⟨rfl,hno⟩
theorem Bo (nd:List (List Nat)) (bad:List Bool) (g:Gr nd bad):HT Try.prog 27 [Gs (nd.map nl),Bl bad] (fun r=>∃path,r=.osl 1 path.length (HL.ints (nl path))/\CirRes nd bad path):=by
 have hsz:=g.size
 have hbl:=g.bads
 have hnl:(nd.map nl).length=nd.length:=by simp
 refine HT.of rfl SA (gZ rfl) ?_
 unfold TD
 simp only [Gs,Bl,aB,Nat.reduceAdd]
 rw [hnl,hbl]
 refine zF ⟨?_⟩
 refine bU aY (by simp (disch:=omega) only [bI,Gs,hnl,hbl,HV.thaw,bn,au,ah,if_true,if_false,reduceIte,Nat.reduceEqDiff,stripL,HV.strip,dQ,cO,Nat.mul_one,List.cons_append,List.nil_append,List.append_nil,I,Bl,T3,List.getD_cons_zero,List.getD_cons_succ,HL.ints_strip,HL.bools_strip,dF];try rfl) (BA (nd.map nl) bad (by omega) (by omega) (fun i=>by rw [aK,bH];have:=g.len i;omega)) ?_
 rintro _ ⟨b,rfl,hb⟩
 obtain rfl:b=true:=hb.2 g.vg
 refine zG ⟨?_⟩
 refine zF ⟨?_⟩
 refine bU aY (by simp (disch:=omega) only [bI,Gs,hnl,hbl,HV.thaw,bn,au,ah,if_true,if_false,reduceIte,Nat.reduceEqDiff,stripL,HV.strip,dQ,cO,Nat.mul_one,List.cons_append,List.nil_append,List.append_nil,I,Bl,T3,List.getD_cons_zero,List.getD_cons_succ,HL.ints_strip,HL.bools_strip,dF];try rfl) (EY nd bad g) ?_
 rintro _ ⟨ds,round,rfl,hT⟩
 refine zG ⟨?_⟩
 have hdl:=hT.len
 have hrl:=hT.round_.len
 have hrlow:=hT.round_.low
 have hrtop:=hT.top g
 refine zQ ⟨?_⟩
 have hB:stripL (HL.bools bad)=HL.bools bad:=HL.bools_strip _
 have hZ:stripL (jy ds)=aO ds:=xB _
 have hI:stripL (HL.ints round)=HL.ints round:=HL.ints_strip _
 refine gI [0,3,5,6] (⟨[(0,.sl nd.length (aO (nd.map nl))),(3,.pref 0 [] 0),(5,.pref 1 [] 0),(6,.pref 2 [] 0)],[(0,.optr [.sl nd.length (HL.bools bad)]),(1,.optr [.osl 1 nd.length (jy ds)]),(2,.optr [.osl 1 nd.length (HL.ints round)])],3⟩:St) rfl ?_
 refine dY 0 [0,3,5,6] _ (congrArg (fun c:List HV=>(⟨[(0,.sl nd.length (aO (nd.map nl))),(3,.ptr [.sl nd.length c] 0),(5,.pref 0 [] 0),(6,.pref 1 [] 0)],[(0,.optr [.osl 1 nd.length (jy ds)]),(1,.optr [.osl 1 nd.length (HL.ints round)])],2⟩:St)) hB) ?_
 refine dY 0 [0,3,5,6] _ (congrArg (fun c:List HV=>(⟨[(0,.sl nd.length (aO (nd.map nl))),(3,.ptr [.sl nd.length (HL.bools bad)] 0),(5,.ptr [.sl nd.length c] 0),(6,.pref 0 [] 0)],[(0,.optr [.osl 1 nd.length (HL.ints round)])],1⟩:St)) hZ) ?_
 refine dY 0 [0,3,5,6] _ (congrArg (fun c:List HV=>(⟨[(0,.sl nd.length (aO (nd.map nl))),(3,.ptr [.sl nd.length (HL.bools bad)] 0),(5,.ptr [.sl nd.length (aO ds)] 0),(6,.ptr [.sl nd.length c] 0)],[],0⟩:St)) hI) ?_
 refine zF ⟨?_⟩
 refine aQ [0,3,5,6,7,23,24,25] (fun s:Nat×Int=>s.1<=nd.length/\FirstC round s.1 s.2)
  (fun s=>⟨[(0,.sl nd.length (aO (nd.map nl))),(3,.ptr [.sl nd.length (HL.bools bad)] 0),(5,.ptr [.sl nd.length (aO ds)] 0),(6,.ptr [.sl nd.length (HL.ints round)] 0),(7,.pref 0 [] 0),(23,.sl nd.length (HL.ints round)),(24,.int .i64 nd.length),(25,.int .i64 s.1)],[(0,.optr [.int .i64 s.2])],1⟩)
  (fun s=>nd.length - s.1) (0,-1) ⟨by simp,FirstC.zero_⟩ rfl ?_
 rintro ⟨i,fi⟩ ⟨hi,hF⟩
 simp only at hi hF ⊢
 by_cases hin:i<nd.length
 ·have hl1:=hrlow i hin
  by_cases h0:0<round.getD i 0
  ·by_cases hf:fi<0
   ·have hT2:=hF.take h0 (.inl hf)
    refine zF ⟨?_⟩
    exact bg [0,3,5,6,7,23,24,25] (i+1,(i:Int)) ⟨hin,hT2⟩ dD rfl
   ·obtain ⟨k,rfl⟩:∃k:Nat,fi=k:=⟨fi.toNat,by omega⟩
    have hkn:k<nd.length:=by
     rcases hF with ⟨h,_⟩|⟨q,h,h1,_⟩<;>omega
    by_cases hlt:round.getD i 0<round.getD k 0
    ·have hT2:=hF.take h0 (.inr (by rw [Int.toNat_natCast];exact hlt))
     refine zF ⟨?_⟩
     exact bg [0,3,5,6,7,23,24,25] (i+1,(i:Int)) ⟨hin,hT2⟩ dD rfl
    ·have hT2:=hF.keep (fun h=>by rw [Int.toNat_natCast] at h;omega)
     refine zF ⟨?_⟩
     exact bg [0,3,5,6,7,23,24,25] (i+1,(k:Int)) ⟨hin,hT2⟩ dD rfl
  ·have hT2:=hF.keep (fun h=>h0 h.1)
   refine zF ⟨?_⟩
   exact bg [0,3,5,6,7,23,24,25] (i+1,fi) ⟨hin,hT2⟩ dD rfl
 ·obtain rfl:i=nd.length:=by omega
  by_cases hf:fi<0
  ·refine zF ⟨?_⟩
   refine az ?_
   rcases hF with ⟨_,h1⟩|⟨q,h,h1,_⟩
   ·exact ⟨[],rfl,ds,round,hT,.inl ⟨rfl,h1⟩⟩
   ·omega
  ·obtain ⟨f,rfl⟩:∃k:Nat,fi=k:=⟨fi.toNat,by omega⟩
   have hfn:f<nd.length/\0<round.getD f 0:=by
    rcases hF with ⟨h,_⟩|⟨q,h,h1,h2,_⟩
    ·omega
    ·obtain rfl:f=q:=by omega
     exact ⟨h1,h2⟩
   obtain ⟨hfn,hf0⟩:=hfn
   have hft:=hrtop f hfn
   have hP0:=Cir.first hT hfn hf0
   refine zF ⟨?_⟩
   refine aQ [0,3,5,6,7,10] (fun path:List Nat=>Cir nd bad ds round f path/\(path.length:Int)<=round.getD f 0)
    (fun path=>⟨[(0,.sl nd.length (aO (nd.map nl))),(3,.ptr [.sl nd.length (HL.bools bad)] 0),(5,.ptr [.sl nd.length (aO ds)] 0),(6,.ptr [.sl nd.length (HL.ints round)] 0),(7,.pref 0 [] 0),(10,.pref 1 [] 0)],[(0,.optr [.int .i64 f]),(1,.optr [.osl 1 path.length (HL.ints (nl path))])],2⟩)
    (fun path=>(round.getD f 0 - path.length).toNat) [f] ⟨hP0,by rw [Ad];omega⟩ rfl ?_
   clear hP0
   rintro path ⟨hP,hle⟩
   have hpl:=hP.pos
   have hnp:=bH path
   by_cases hlt:(path.length:Int)<round.getD f 0
   ·have hto:((path.length:Int) - 1).toNat=path.length - 1:=by omega
    obtain ⟨p,hq⟩:∃p,path.getD (path.length - 1) 0=p:=⟨_,rfl⟩
    have hpn:p<nd.length:=by rw [<- hq];exact (hP.lt _ (getD_mem path _ 0 (by omega))).1
    have hrw:=bH (nd.getD p [])
    have hgl:=g.len p
    refine zF ⟨?_⟩
    refine iL bM bM (fun _ _ _=>False) ?_
    refine kE (zA @aK (zA @hto @hq)) ⟨?_⟩
    refine zZ aY ?_
    refine bU aY (by simp (disch:=omega) only [bI,Gs,Bl,I,hnl,hbl,hdl,hrl,hnp,hrw,HV.thaw,bn,au,ah,if_true,if_false,reduceIte,Nat.reduceEqDiff,stripL,HV.strip,dQ,cO,Nat.mul_one,List.cons_append,List.nil_append,List.append_nil,I,Bl,T3,List.getD_cons_zero,List.getD_cons_succ,HL.ints_strip,HL.bools_strip,dF];try rfl) (G9 nd bad ds round f path g hT hfn (by omega) (nd.getD p []) (by omega) (g.lt p)) ?_
    rintro _ (⟨q,rfl,hq1,hq2,hq3⟩|⟨rfl,hno⟩)
    ·obtain ⟨v,hv⟩:∃v,(nd.getD p []).getD q 0=v:=⟨_,rfl⟩
     rw [hv] at hq2
     refine zG ⟨?_⟩
     refine zF ⟨?_⟩
     refine FV [11,12] [10] bM bM (fun _ _ _=>False) (by
      intro t ht
      simp only [zl008,yP,or_false] at ht
      rcases ht with rfl|rfl<;>simp [au,HV.deep,A7]) (by
      intro t ht
      simp only [zl008,yP,or_false] at ht
      subst ht
      simp [au,HV.deep]) ?_
     refine kE @hv ⟨?_⟩
     have hgc:bad.getD v false=false/\dd ds v f=round.getD f 0 - path.length:=by
      unfold uo at hq2
      simpa using hq2
     have hno:∀e,e<q->¬ (bad.getD ((nd.getD p []).getD e 0) false=false/\dd ds ((nd.getD p []).getD e 0) f=round.getD f 0 - path.length):=fun e he h=>by
      have:=hq3 e he
      unfold uo at this
      rw [h.1,h.2] at this
      simp at this
     have hPa:=hP.add (e:=q) (v:=v) (by rw [hq];exact hq1) (by rw [hq];exact hv) (by rw [<- hv];exact g.lt p _ (getD_mem _ _ 0 hq1)) hgc.1 hgc.2 (by rw [hq];exact hno)
     exact bg [0,3,5,6,7,10] (path++[v]) ⟨hPa,by rw [kL,Ad];omega⟩ (by rw [kL,Ad];omega) (by simp only [kL,List.length_cons,List.length_nil,Nat.zero_add];rfl)
    ·exfalso
     obtain ⟨w,hw1,hw2,hw3⟩:=hP.next g hT hlt
     rw [hq] at hw1
     obtain ⟨e,he1,he2⟩:=gQ 0 hw1
     have:=hno e he1
     rw [he2] at this
     unfold uo at this
     rw [hw2,hw3] at this
     simp at this
   ·have hend:(path.length:Int)=round.getD f 0:=by omega
    refine zF ⟨?_⟩
    refine iL bM bM (fun _ _ _=>False) ?_
    refine zF ⟨?_⟩
    refine Jv 1 [4] (⟨[(4,.ref 0 [] 1 0 path.length)],[(0,.osl 1 path.length (HL.ints (nl path)))],1⟩:St) rfl ?_
    refine az ?_
    exact ⟨path,rfl,ds,round,hT,.inr ⟨f,hF,hP,hend⟩⟩
end Go.Proofs.Ytjlidhijnohkbaa
