import Derived.Test.YtjlidhijnohkbaaGrWit
import Derived.Test.YtjlidhijnohkbaaHlW
set_option linter.unusedSimpArgs false
set_option linter.unusedVariables false
set_option maxHeartbeats 8000000
namespace Go.Proofs.Ytjlidhijnohkbaa
open Go.RowKit Go.HL
theorem IsRest.ex {bad:List Bool} {dv round:List Int} {n:Nat} (h:∀k,k<n->0<=round.getD k 0):∀i,i<=n->∃r,IsRest bad dv round n i r:=by
 intro i
 induction i with
 | zero=>intro _;exact ⟨2*n,by simp,by omega,fun u hu=>absurd hu (by simp),.inl rfl⟩
 | succ i ih =>
  intro hi
  obtain ⟨r,hr⟩:=ih (by omega)
  by_cases h1:0<=dv.getD i 0/\ends bad round i
  ·exact ⟨_,hr.take h1.1 h1.2 (h i (by omega))⟩
  ·exact ⟨_,hr.skip h1⟩
theorem uf (nd:List (List Nat)) (bad:List Bool) (i:Int) (g:Gr nd bad) (hno:∀rank,IsRank nd bad rank->i<0\/(nd.length:Int)<=i\/0<=rank.getD i.toNat 0):HT Try.prog 24 [Gs (nd.map nl),Bl bad,.int .i64 i] (fun r=>r=.osl 1 0 []):=by
 have hsz:=g.size
 have hbl:=g.bads
 have hnl:(nd.map nl).length=nd.length:=by simp
 refine HT.of rfl P9 (gZ rfl) ?_
 unfold c24
 simp only [Gs,Bl,aB,Nat.reduceAdd]
 rw [hnl,hbl]
 refine zF ⟨?_⟩
 refine bU aY (by simp (disch:=omega) only [bI,Gs,hnl,hbl,HV.thaw,bn,au,ah,if_true,if_false,reduceIte,Nat.reduceEqDiff,stripL,HV.strip,dQ,cO,Nat.mul_one,List.cons_append,List.nil_append,List.append_nil,I,Bl,T3,List.getD_cons_zero,List.getD_cons_succ,HL.ints_strip,HL.bools_strip,dF];try rfl) (Gm nd bad g) ?_
 rintro _ ⟨rank,rfl,hR⟩
 refine zG ⟨?_⟩
 have hrl:=hR.len
 rcases hno rank hR with h|h|h
 ·refine zF ⟨?_⟩
  refine az ?_
  rfl
 ·refine zF ⟨?_⟩
  refine az ?_
  rfl
 ·by_cases h0:i<0
  ·refine zF ⟨?_⟩
   refine az ?_
   rfl
  ·by_cases h4:(nd.length:Int)<=i
   ·refine zF ⟨?_⟩
    refine az ?_
    rfl
   ·obtain ⟨j,rfl⟩:∃j:Nat,i=j:=⟨i.toNat,by omega⟩
    simp only [Int.toNat_natCast] at h
    refine zF ⟨?_⟩
    refine az ?_
    rfl
theorem He (nd:List (List Nat)) (bad:List Bool) (rank:List Int) (i:Nat) (g:Gr nd bad) (hR:IsRank nd bad rank) (hi:i<nd.length) (hir:rank.getD i 0<0):HT Try.prog 24 [Gs (nd.map nl),Bl bad,.int .i64 i] (fun r=>∃ds round path total,r=.osl 1 path.length (HL.ints (nl path))/\IsTable nd bad ds round/\Pth nd bad ds round rank i total path/\(path.length:Int)=total+1):=by
 have hsz:=g.size
 have hbl:=g.bads
 have hnl:(nd.map nl).length=nd.length:=by simp
 refine HT.of rfl P9 (gZ rfl) ?_
 unfold c24
 simp only [Gs,Bl,aB,Nat.reduceAdd]
 rw [hnl,hbl]
 refine zF ⟨?_⟩
 refine bU aY (by simp (disch:=omega) only [bI,Gs,hnl,hbl,HV.thaw,bn,au,ah,if_true,if_false,reduceIte,Nat.reduceEqDiff,stripL,HV.strip,dQ,cO,Nat.mul_one,List.cons_append,List.nil_append,List.append_nil,I,Bl,T3,List.getD_cons_zero,List.getD_cons_succ,HL.ints_strip,HL.bools_strip,dF];try rfl) (Gm nd bad g) ?_
 rintro _ ⟨rank',rfl,hR'⟩
 refine zG ⟨?_⟩
 obtain rfl:=hR'.unique g hR
 have hrl:=hR.len
 refine zF ⟨?_⟩
 refine bU aY (by simp (disch:=omega) only [bI,Gs,hnl,hbl,HV.thaw,bn,au,ah,if_true,if_false,reduceIte,Nat.reduceEqDiff,stripL,HV.strip,dQ,cO,Nat.mul_one,List.cons_append,List.nil_append,List.append_nil,I,Bl,T3,List.getD_cons_zero,List.getD_cons_succ,HL.ints_strip,HL.bools_strip,dF];try rfl) (EY nd bad g) ?_
 rintro _ ⟨ds,round,rfl,hT⟩
 refine zG ⟨?_⟩
 have hdl:=hT.len
 have hrl2:=hT.round_.len
 refine zQ ⟨?_⟩
 have hN:stripL (aO (nd.map nl))=aO (nd.map nl):=xu _
 have hB:stripL (HL.bools bad)=HL.bools bad:=HL.bools_strip _
 have hZ:stripL (jy ds)=aO ds:=xB _
 have hI:stripL (HL.ints round)=HL.ints round:=HL.ints_strip _
 refine gI [2,3,4,7,8,9] (⟨[(2,.int .i64 i),(3,.pref 0 [] 0),(4,.pref 1 [] 0),(7,.ref 2 [] 1 0 nd.length),(8,.pref 3 [] 0),(9,.pref 4 [] 0)],[(0,.optr [.sl nd.length (aO (nd.map nl))]),(1,.optr [.sl nd.length (HL.bools bad)]),(2,.osl 1 nd.length (HL.ints rank')),(3,.optr [.osl 1 nd.length (jy ds)]),(4,.optr [.osl 1 nd.length (HL.ints round)])],5⟩:St) rfl ?_
 refine dY 0 [2,3,4,7,8,9] _ (congrArg (fun c:List HV=>(⟨[(2,.int .i64 i),(3,.ptr [.sl nd.length c] 0),(4,.pref 0 [] 0),(7,.ref 1 [] 1 0 nd.length),(8,.pref 2 [] 0),(9,.pref 3 [] 0)],[(0,.optr [.sl nd.length (HL.bools bad)]),(1,.osl 1 nd.length (HL.ints rank')),(2,.optr [.osl 1 nd.length (jy ds)]),(3,.optr [.osl 1 nd.length (HL.ints round)])],4⟩:St)) hN) ?_
 refine dY 0 [2,3,4,7,8,9] _ (congrArg (fun c:List HV=>(⟨[(2,.int .i64 i),(3,.ptr [.sl nd.length (aO (nd.map nl))] 0),(4,.ptr [.sl nd.length c] 0),(7,.ref 0 [] 1 0 nd.length),(8,.pref 1 [] 0),(9,.pref 2 [] 0)],[(0,.osl 1 nd.length (HL.ints rank')),(1,.optr [.osl 1 nd.length (jy ds)]),(2,.optr [.osl 1 nd.length (HL.ints round)])],3⟩:St)) hB) ?_
 refine dY 1 [2,3,4,7,8,9] _ (congrArg (fun c:List HV=>(⟨[(2,.int .i64 i),(3,.ptr [.sl nd.length (aO (nd.map nl))] 0),(4,.ptr [.sl nd.length (HL.bools bad)] 0),(7,.ref 0 [] 1 0 nd.length),(8,.ptr [.sl nd.length c] 0),(9,.pref 1 [] 0)],[(0,.osl 1 nd.length (HL.ints rank')),(1,.optr [.osl 1 nd.length (HL.ints round)])],2⟩:St)) hZ) ?_
 refine dY 1 [2,3,4,7,8,9] _ (congrArg (fun c:List HV=>(⟨[(2,.int .i64 i),(3,.ptr [.sl nd.length (aO (nd.map nl))] 0),(4,.ptr [.sl nd.length (HL.bools bad)] 0),(7,.ref 0 [] 1 0 nd.length),(8,.ptr [.sl nd.length (aO ds)] 0),(9,.ptr [.sl nd.length c] 0)],[(0,.osl 1 nd.length (HL.ints rank'))],1⟩:St)) hI) ?_
 refine dC ?_
 refine aW ?_
 refine zZ aY ?_
 refine zF ⟨?_⟩
 refine ou (by rfl) aY (by simp (disch:=omega) only [bI,Gs,hnl,hbl,hdl,hrl2,HV.thaw,bn,au,ah,if_true,if_false,reduceIte,Nat.reduceEqDiff,stripL,HV.strip,dQ,cO,Nat.mul_one,List.cons_append,List.nil_append,List.append_nil,I,Bl,T3,List.getD_cons_zero,List.getD_cons_succ,HL.ints_strip,HL.bools_strip,dF];try rfl) (Je nd bad ds round g hT i hi) ?_
 rintro _ ⟨total,rfl,hW⟩
 refine zG ⟨?_⟩
 refine zF ⟨?_⟩
 have hwt:=hW.top
 have hwl:=hW.low
 have hP0:Pth nd bad ds round rank' i total [i]:=Pth.first hi hir (RR.rest hW)
 refine aQ [3,7,8,10,11,12] (fun path:List Nat=>Pth nd bad ds round rank' i total path/\(path.length:Int)<=total+1)
  (fun path=>⟨[(3,.ptr [.sl nd.length (aO (nd.map nl))] 0),(7,.ref 0 [] 1 0 nd.length),(8,.ptr [.sl nd.length (aO ds)] 0),(10,.fn 34 [.ptr [.sl nd.length (aO (nd.map nl))] 0,.ptr [.sl nd.length (aO ds)] 0,.ptr [.sl nd.length (HL.bools bad)] 0,.ptr [.sl nd.length (HL.ints round)] 0]),(11,.ref 1 [] 1 0 path.length),(12,.int .i64 total)],[(0,.osl 1 nd.length (HL.ints rank')),(1,.osl 1 path.length (HL.ints (nl path)))],2⟩)
  (fun path=>(total+1 - path.length).toNat) [i] ⟨hP0,by simp;omega⟩ rfl ?_
 clear hP0
 rintro path ⟨hP,hle⟩
 have hpl:=hP.pos
 have hnp:=bH path
 by_cases hlt:(path.length:Int)<=total
 ·have hto:((path.length:Int) - 1).toNat=path.length - 1:=by omega
  obtain ⟨p,hq⟩:∃p,path.getD (path.length - 1) 0=p:=⟨_,rfl⟩
  have hpn:p<nd.length:=by rw [<- hq];exact (hP.lt _ (getD_mem path _ 0 (by omega))).1
  have hrw:=bH (nd.getD p [])
  have hgl:=g.len p
  refine zF ⟨?_⟩
  refine iL bM bM (fun _ _ _=>False) ?_
  refine kE (zA @aK (zA @hto @hq)) ⟨?_⟩
  refine aQ [3,7,8,10,11,12,13,65,66,67] (fun e:Nat=>e<=(nd.getD p []).length/\∀q,q<e->¬ RR nd bad ds round ((nd.getD p []).getD q 0) path (total - path.length))
   (fun e=>⟨[(3,.ptr [.sl nd.length (aO (nd.map nl))] 0),(7,.ref 0 [] 1 0 nd.length),(8,.ptr [.sl nd.length (aO ds)] 0),(10,.fn 34 [.ptr [.sl nd.length (aO (nd.map nl))] 0,.ptr [.sl nd.length (aO ds)] 0,.ptr [.sl nd.length (HL.bools bad)] 0,.ptr [.sl nd.length (HL.ints round)] 0]),(11,.ref 1 [] 1 0 path.length),(12,.int .i64 total),(13,.int .i64 (total - path.length)),(65,.sl (nd.getD p []).length (HL.ints (nl (nd.getD p [])))),(66,.int .i64 (nd.getD p []).length),(67,.int .i64 e)],[(0,.osl 1 nd.length (HL.ints rank')),(1,.osl 1 path.length (HL.ints (nl path)))],2⟩)
   (fun e=>(nd.getD p []).length - e) 0 ⟨by simp,fun q hq=>absurd hq (by simp)⟩ rfl ?_
  rintro e ⟨he,hno⟩
  by_cases hel:e<(nd.getD p []).length
  ·obtain ⟨v,hv⟩:∃v,(nd.getD p []).getD e 0=v:=⟨_,rfl⟩
   have hvn:v<nd.length:=by rw [<- hv];exact g.lt p _ (getD_mem _ _ 0 hel)
   have hpathr:∀x∈path,x<nd.length/\rank'.getD x 0<0:=hP.lt
   by_cases hvr:0<=rank'.getD v 0
   ·refine kE @hv ⟨?_⟩
    exact bg [3,7,8,10,11,12,13,65,66,67] (e+1) ⟨hel,fun q hq2=>by
     by_cases e1:q=e
     ·subst e1;rw [hv];exact fun hr=>by have:=hr.open_ g hT hR hvn hpathr (by omega);omega
     ·exact hno q (by omega)⟩ (by omega) rfl
   ·refine kE @hv ⟨?_⟩
    refine ou (by rfl) aY (by simp (disch:=omega) only [bI,Gs,hnl,hbl,hdl,hrl2,HV.thaw,bn,au,ah,if_true,if_false,reduceIte,Nat.reduceEqDiff,stripL,HV.strip,dQ,cO,Nat.mul_one,List.cons_append,List.nil_append,List.append_nil,I,Bl,T3,List.getD_cons_zero,List.getD_cons_succ,HL.ints_strip,HL.bools_strip,dF];try rfl) (Je nd bad ds round g hT v hvn) ?_
    rintro _ ⟨n0,rfl,hW2⟩
    refine zG ⟨?_⟩
    refine kE @hv ⟨?_⟩
    have hvl:=(hT.dist v hvn).len
    have hvlow:=(hT.dist v hvn).low
    obtain ⟨dv,hdv⟩:∃dv,ds.getD v []=dv:=⟨_,rfl⟩
    rw [hdv] at hvl hvlow
    have hdd:∀x,dd ds v x=dv.getD x 0:=fun x=>by unfold dd;rw [hdv]
    refine aQ [3,7,8,10,11,12,13,15,16,65,66,67,79,80,81] (fun s:Nat×Int=>s.1<=path.length/\RR nd bad ds round v (path.take s.1) s.2)
     (fun s=>⟨[(3,.ptr [.sl nd.length (aO (nd.map nl))] 0),(7,.ref 0 [] 1 0 nd.length),(8,.ptr [.sl nd.length (aO ds)] 0),(10,.fn 34 [.ptr [.sl nd.length (aO (nd.map nl))] 0,.ptr [.sl nd.length (aO ds)] 0,.ptr [.sl nd.length (HL.bools bad)] 0,.ptr [.sl nd.length (HL.ints round)] 0]),(11,.ref 1 [] 1 0 path.length),(12,.int .i64 total),(13,.int .i64 (total - path.length)),(15,.int .i64 v),(16,.int .i64 s.2),(65,.sl (nd.getD p []).length (HL.ints (nl (nd.getD p [])))),(66,.int .i64 (nd.getD p []).length),(67,.int .i64 e),(79,.ref 1 [] 1 0 path.length),(80,.int .i64 path.length),(81,.int .i64 s.1)],[(0,.osl 1 nd.length (HL.ints rank')),(1,.osl 1 path.length (HL.ints (nl path)))],2⟩)
     (fun s=>path.length - s.1) (0,n0) ⟨by simp,RR.rest hW2⟩ rfl ?_
    clear hW2
    clear n0
    rintro ⟨k,m⟩ ⟨hk,hRR⟩
    simp only at hk hRR ⊢
    have hmt:=hRR.top
    have hml:=hRR.low
    by_cases hkl:k<path.length
    ·obtain ⟨x,hx⟩:∃x,path.getD k 0=x:=⟨_,rfl⟩
     have hxn:x<nd.length:=by rw [<- hx];exact (hP.lt _ (getD_mem path _ 0 hkl)).1
     have hadd:=hRR.add x
     rw [<- hx,<- aT path k 0 hkl,hx,hdd] at hadd
     have hxl:=hvlow x hxn
     by_cases h0:0<=dv.getD x 0
     ·rw [if_pos h0] at hadd
      generalize hz:(if dv.getD x 0<m then dv.getD x 0 else m)=z at hadd
      repeat (first|refine l7 ag rfl ?_|refine iZ dP ?_|refine aW ?_|refine dC ?_|refine jF (by rfl) (by rfl) uQ ?_|refine dN ?_|refine dZ (by rfl) ?_|refine dV ?_|refine jA (by rfl) bz (by (try simp (disch:=omega) only [go_sem,reduceIte,Nat.reduceEqDiff,Nat.reduceAdd,Nat.reduceMul,hx,hdv,hz]);try rfl) aF (by (try simp (disch:=omega) only [go_sem,hx,hdv,hz]);try rfl) ag ?_|refine kw (by rfl) (by rfl) (by (try simp (disch:=omega) only [go_sem,Int.reduceAdd,Int.reduceSub,Int.reduceMul,hx,hdv,hz]);try rfl) ?_|refine jH (by rfl) aF (by (try simp (disch:=omega) only [go_sem,hx,hdv,hz]);try rfl) ?_|refine dK ?_|refine tZ ?_|refine dE ?_|refine um (by rfl) (by rfl) kK ?_|refine DI (by rfl) (by rfl) (by (try simp only [go_sem,reduceIte,hx,hdv,hz]);try rfl) ?_)
      exact bg [3,7,8,10,11,12,13,15,16,65,66,67,79,80,81] (k+1,z) ⟨hkl,hadd⟩ dD rfl
     ·rw [if_neg h0] at hadd
      repeat (first|refine l7 ag rfl ?_|refine iZ dP ?_|refine aW ?_|refine dC ?_|refine jF (by rfl) (by rfl) uQ ?_|refine dN ?_|refine dZ (by rfl) ?_|refine eG (by rfl) ?_|refine dV ?_|refine jA (by rfl) bz (by (try simp (disch:=omega) only [go_sem,reduceIte,Nat.reduceEqDiff,Nat.reduceAdd,Nat.reduceMul,hx,hdv]);try rfl) aF (by (try simp (disch:=omega) only [go_sem,hx,hdv]);try rfl) ag ?_|refine kw (by rfl) (by rfl) (by (try simp (disch:=omega) only [go_sem,Int.reduceAdd,Int.reduceSub,Int.reduceMul,hx,hdv]);try rfl) ?_|refine jH (by rfl) aF (by (try simp (disch:=omega) only [go_sem,hx,hdv]);try rfl) ?_|refine dK ?_|refine tZ ?_|refine dE ?_|refine um (by rfl) (by rfl) kK ?_)
      exact bg [3,7,8,10,11,12,13,15,16,65,66,67,79,80,81] (k+1,m) ⟨hkl,hadd⟩ dD rfl
    ·obtain rfl:k=path.length:=by omega
     rw [lV] at hRR
     by_cases hm:m=total - path.length
     ·subst hm
      refine zF ⟨?_⟩
      have hPa:=hP.add (e:=e) (v:=v) (by rw [hq];exact hel) (by rw [hq];exact hv) hvn (by omega) hRR (by rw [hq];exact hno)
      exact bg [3,7,8,10,11,12] (path++[v]) ⟨hPa,by simp;omega⟩ (by simp;omega) (by simp only [kL,List.length_cons,List.length_nil,Nat.zero_add];rfl)
     ·refine zF ⟨?_⟩
      exact bg [3,7,8,10,11,12,13,65,66,67] (e+1) ⟨hel,fun q hq2=>by
       by_cases e1:q=e
       ·subst e1;rw [hv];exact fun hr=>hm (hRR.unique hr)
       ·exact hno q (by omega)⟩ (by omega) rfl
  ·obtain rfl:e=(nd.getD p []).length:=by omega
   exfalso
   obtain ⟨w,hw1,hw2⟩:=hP.next g hT hR (fun v hv=>IsRest.ex hT.round_.low _ (aP _)) hlt
   rw [hq] at hw1
   obtain ⟨q,hq1,hq2⟩:=Gg hw1
   exact hno q hq1 (by rw [dW,dS hq1,gV,hq2];exact hw2)
 ·refine zF ⟨?_⟩
  refine az ?_
  exact ⟨ds,round,path,total,rfl,hT,hP,by omega⟩
end Go.Proofs.Ytjlidhijnohkbaa
