import Derived.Test.YtjlidhijnohkbaaGrW
import Derived.Test.YtjlidhijnohkbaaHlW
set_option linter.unusedSimpArgs false
set_option linter.unusedVariables false
set_option maxHeartbeats 8000000
namespace Go.Proofs.Ytjlidhijnohkbaa
open Go.RowKit Go.HL
theorem Gm (nd:List (List Nat)) (bad:List Bool) (g:Gr nd bad):HT Try.prog 17 [Gs (nd.map nl),Bl bad] (fun r=>∃rank,r=.osl 1 nd.length (HL.ints rank)/\IsRank nd bad rank):=by
 have hsz:=g.size
 have hbl:=g.bads
 have hnl:(nd.map nl).length=nd.length:=by simp
 have hrow:∀i,((nd.map nl).getD i []).length<=256:=fun i=>by rw [aK,bH];have:=g.len i;omega
 refine HT.of rfl RP (gZ rfl) ?_
 unfold c17
 simp only [Gs,Bl,aB,Nat.reduceAdd]
 refine zM ⟨?_⟩
 refine bU aY (by simp (disch:=omega) only [bI,Gs,xu,HV.thaw,bn,au,ah,if_true,if_false,reduceIte,Nat.reduceEqDiff,stripL,HV.strip,dQ,cO,Nat.mul_one,List.cons_append,List.nil_append,List.append_nil,I,Bl,T3,List.getD_cons_zero,List.getD_cons_succ,HL.ints_strip,HL.bools_strip,dF];try rfl) (BA (nd.map nl) bad (by omega) (by omega) (fun i=>by have:=hrow i;omega)) ?_
 rintro _ ⟨b,rfl,hb⟩
 obtain rfl:b=true:=hb.2 g.vg
 refine zG ⟨?_⟩
 rw [hnl,hbl]
 refine zF ⟨?_⟩
 rw [<- Fe]
 refine aQ [0,1,5,6,7,8,32,33,34] (fun s:Nat×List Int×List Int×Nat×List Nat=>s.1<=nd.length/\s.2.2.2.2.length=s.2.2.2.1/\R0 nd bad s.1 s.2.1 s.2.2.1 s.2.2.2.2)
  (fun s=>⟨[(0,.sl nd.length (aO (nd.map nl))),(1,.sl nd.length (HL.bools bad)),(5,.ref 0 [] 1 0 nd.length),(6,.ref 1 [] 1 0 nd.length),(7,.ref 2 [] 1 0 nd.length),(8,.ref 3 [] 1 0 s.2.2.2.1),(32,.sl nd.length (aO (nd.map nl))),(33,.int .i64 nd.length),(34,.int .i64 s.1)],[(0,.osl 1 nd.length (HL.ints s.2.1)),(1,.osl 1 nd.length (HL.ints s.2.2.1)),(2,.osl 1 nd.length (dR (fC nd s.1 0))),(3,.osl 1 s.2.2.2.1 (HL.ints (nl s.2.2.2.2)))],4⟩)
  (fun s=>nd.length - s.1) (0,List.replicate nd.length 0,List.replicate nd.length 0,0,[]) ⟨by simp,rfl,⟨by simp,by simp,fun u hu=>absurd hu (by simp),fun u hu=>absurd hu (by simp),rfl⟩⟩ rfl ?_
 rintro ⟨i,rank,left,m,now⟩ ⟨hi,hm,hR⟩
 simp only at hi hm hR ⊢
 have hlr:=hR.lr
 have hll:=hR.ll
 by_cases hin:i<nd.length
 ·have hlen:=g.len i
  have hst:=hR.step hin
  have hrl:=bH (nd.getD i [])
  have hmf:m<=i:=by rw [<- hm,hR.now_];exact F9 _ _ _
  refine kE @aK ⟨?_⟩
  refine aQ [0,1,5,6,7,8,9,10,32,33,34,47,48,49] (fun k:Nat=>k<=(nd.getD i []).length)
   (fun k=>⟨[(0,.sl nd.length (aO (nd.map nl))),(1,.sl nd.length (HL.bools bad)),(5,.ref 0 [] 1 0 nd.length),(6,.ref 1 [] 1 0 nd.length),(7,.ref 2 [] 1 0 nd.length),(8,.ref 3 [] 1 0 m),(9,.int .i64 i),(10,.sl (nd.getD i []).length (HL.ints (nl (nd.getD i [])))),(32,.sl nd.length (aO (nd.map nl))),(33,.int .i64 nd.length),(34,.int .i64 i),(47,.sl (nd.getD i []).length (HL.ints (nl (nd.getD i [])))),(48,.int .i64 (nd.getD i []).length),(49,.int .i64 k)],[(0,.osl 1 nd.length (HL.ints (rank.set i (-1)))),(1,.osl 1 nd.length (HL.ints (left.set i ((nd.getD i []).length:Int)))),(2,.osl 1 nd.length (dR (fC nd i k))),(3,.osl 1 m (HL.ints (nl now)))],4⟩)
   (fun k=>(nd.getD i []).length - k) 0 (by omega) rfl ?_
  intro k hk
  by_cases hkl:k<(nd.getD i []).length
  ·have hj:=g.lt i _ (getD_mem (nd.getD i []) k 0 hkl)
   have hul:=uM nd i k
   have hset:=GV g i k hkl
   have hfew:=ET nd i k ((nd.getD i []).getD k 0)
   rw [<- zo nd i k hj] at hset hfew
   have hn1:=bH ((fC nd i k).getD ((nd.getD i []).getD k 0) [])
   have hro:=JR (fC nd i k) ((nd.getD i []).getD k 0) ((fC nd i k).getD ((nd.getD i []).getD k 0) []++[i]) .dead (m:=((fC nd i k).getD ((nd.getD i []).getD k 0) []).length+1) (by simp)
   rw [hset] at hro
   refine kE @hro ⟨?_⟩
   exact bg [0,1,5,6,7,8,9,10,32,33,34,47,48,49] (k+1) hkl (by omega) rfl
  ·obtain rfl:k=(nd.getD i []).length:=by omega
   rw [GM]
   by_cases he:nd.getD i []=[]
   ·have he':(nd.getD i []).length=0:=by rw [he];rfl
    cases hbi:bad.getD i false with
    | true =>
     rw [if_neg (by rw [hbi];simp)] at hst
     refine kE @hbi ⟨?_⟩
     exact bg [0,1,5,6,7,8,32,33,34] (i+1,rank.set i (-1),left.set i ((nd.getD i []).length:Int),m,now) ⟨hin,hm,by simpa using hst⟩ dD rfl
    | false =>
     rw [if_pos ⟨he,hbi⟩] at hst
     have hn2:=bH now
     refine kE @hbi ⟨?_⟩
     exact bg [0,1,5,6,7,8,32,33,34] (i+1,rank.set i (-1),left.set i ((nd.getD i []).length:Int),m+1,now++[i]) ⟨hin,by simp [hm],hst⟩ dD rfl
   ·have he':(nd.getD i []).length≠0:=fun h=>he (fG h)
    rw [if_neg (fun h=>he h.1)] at hst
    refine zF ⟨?_⟩
    exact bg [0,1,5,6,7,8,32,33,34] (i+1,rank.set i (-1),left.set i ((nd.getD i []).length:Int),m,now) ⟨hin,hm,by simpa using hst⟩ dD rfl
 ·obtain rfl:i=nd.length:=by omega
  have h0:=Rd.first g hR.lr hR.ll hR.rank_ hR.left_
  rw [<- hR.now_] at h0
  have hU:stripL (win (dR (fC nd nd.length 0)) 0 (nd.length*1))=aO ((fC nd nd.length 0).map nl):=by rw [oU _ (by rw [uM];omega),og]
  have hUl:((fC nd nd.length 0).map nl).length=nd.length:=by rw [fK,uM]
  have hUg:∀j,j<nd.length->((fC nd nd.length 0).map nl).getD j []=nl (bP nd j):=fun j hj=>by rw [aK,JY nd hj]
  generalize (fC nd nd.length 0).map nl=U at hU hUl hUg
  refine dC ?_
  refine aW ?_
  refine zQ ⟨?_⟩
  refine dC ?_
  refine eG (by rfl) ?_
  refine gu (by rfl) ?_
  refine dY 2 [1,5,6,7,8] _ (congrArg (fun c:List HV=>(⟨[(1,.sl nd.length (HL.bools bad)),(5,.ref 0 [] 1 0 nd.length),(6,.ref 1 [] 1 0 nd.length),(7,.sl nd.length c),(8,.ref 2 [] 1 0 m)],[(0,.osl 1 nd.length (HL.ints rank)),(1,.osl 1 nd.length (HL.ints left)),(2,.osl 1 m (HL.ints (nl now)))],3⟩:St)) hU) ?_
  clear hR hlr hll hU
  refine zF ⟨?_⟩
  refine aQ [1,5,6,7,8,13] (fun s:Nat×List Nat×Nat×List Nat×List Int×List Int=>s.2.2.2.1.length=s.2.2.1/\Rd nd bad s.1 s.2.1 s.2.2.2.1 s.2.2.2.2.1 s.2.2.2.2.2)
   (fun s=>⟨[(1,.sl nd.length (HL.bools bad)),(5,.ref 0 [] 1 0 nd.length),(6,.ref 1 [] 1 0 nd.length),(7,.sl nd.length (aO U)),(8,.ref 2 [] 1 0 s.2.2.1),(13,.int .i64 s.1)],[(0,.osl 1 nd.length (HL.ints s.2.2.2.2.1)),(1,.osl 1 nd.length (HL.ints s.2.2.2.2.2)),(2,.osl 1 s.2.2.1 (HL.ints (nl s.2.2.2.1)))],3⟩)
   (fun s=>nd.length - s.2.1.length) (0,[],m,now,rank,left) ⟨hm,h0⟩ rfl ?_
  clear h0 hm hi hin
  clear left rank now m
  rintro ⟨r,D,m,now,rank,left⟩ ⟨hm,h0⟩
  simp only at hm h0 ⊢
  have hlr:=h0.lr
  have hll:=h0.ll
  have hds:=h0.size
  have hfew:=h0.few
  by_cases hm0:m=0
  ·have hnow:now=[]:=fG (by omega)
   subst hnow
   refine zF ⟨?_⟩
   refine az ?_
   exact ⟨rank,rfl,h0.ranks g⟩
  ·have hne:now≠[]:=fun h=>hm0 (by rw [<- hm,h];rfl)
   have hnlen:=bH now
   refine zF ⟨?_⟩
   refine aQ [1,5,6,7,13,14,84,85,86] (fun s:Nat×List Int×List Int×Nat×List Nat=>s.1<=now.length/\s.2.2.2.2.length=s.2.2.2.1/\Md nd bad r D now rank s.1 s.2.1 s.2.2.1 s.2.2.2.2)
    (fun s=>⟨[(1,.sl nd.length (HL.bools bad)),(5,.ref 0 [] 1 0 nd.length),(6,.ref 1 [] 1 0 nd.length),(7,.sl nd.length (aO U)),(13,.int .i64 r),(14,.ref 2 [] 1 0 s.2.2.2.1),(84,.ref 3 [] 1 0 m),(85,.int .i64 m),(86,.int .i64 s.1)],[(0,.osl 1 nd.length (HL.ints s.2.1)),(1,.osl 1 nd.length (HL.ints s.2.2.1)),(2,.osl 1 s.2.2.2.1 (HL.ints (nl s.2.2.2.2))),(3,.osl 1 m (HL.ints (nl now)))],4⟩)
    (fun s=>now.length - s.1) (0,rank,left,0,[]) ⟨by simp,rfl,Md.first h0⟩ rfl ?_
   rintro ⟨k,rank1,left1,q,next⟩ ⟨hk,hq,hM⟩
   simp only at hk hq hM ⊢
   have hlr1:=hM.lr
   have hll1:=hM.ll
   by_cases hkl:k<now.length
   ·have hnk:=h0.lt _ (zl001.2 (.inr (getD_mem now k 0 hkl)))
    have hUn:=hUg _ hnk
    have hnu:=bH (bP nd (now.getD k 0))
    have hul2:(bP nd (now.getD k 0)).length<=nd.length:=fA (ui nd _) fun u hu=>(usersOf_mem.1 hu).1
    refine kE @hUn ⟨?_⟩
    refine aQ [1,5,6,7,13,14,84,85,86,97,98,99] (fun s:Nat×List Int×Nat×List Nat=>s.1<=(bP nd (now.getD k 0)).length/\s.2.2.2.length=s.2.2.1/\Mi nd bad D now k s.1 s.2.1 s.2.2.2)
     (fun s=>⟨[(1,.sl nd.length (HL.bools bad)),(5,.ref 0 [] 1 0 nd.length),(6,.ref 1 [] 1 0 nd.length),(7,.sl nd.length (aO U)),(13,.int .i64 r),(14,.ref 2 [] 1 0 s.2.2.1),(84,.ref 3 [] 1 0 m),(85,.int .i64 m),(86,.int .i64 k),(97,.sl (bP nd (now.getD k 0)).length (HL.ints (nl (bP nd (now.getD k 0))))),(98,.int .i64 (bP nd (now.getD k 0)).length),(99,.int .i64 s.1)],[(0,.osl 1 nd.length (HL.ints (rank1.set (now.getD k 0) (r:Int)))),(1,.osl 1 nd.length (HL.ints s.2.1)),(2,.osl 1 s.2.2.1 (HL.ints (nl s.2.2.2))),(3,.osl 1 m (HL.ints (nl now)))],4⟩)
     (fun s=>(bP nd (now.getD k 0)).length - s.1) (0,left1,q,next) ⟨by simp,hq,hM.enter⟩ rfl ?_
    have hstep:=fun left' next' h=>hM.step g h0 hkl (left':=left') (next':=next') h
    clear hM hq hll1
    clear next q left1
    rintro ⟨e,left1,q,next⟩ ⟨he,hq,hM⟩
    simp only at he hq hM ⊢
    have hll1:=hM.ll
    have hns:=hM.size
    by_cases hel:e<(bP nd (now.getD k 0)).length
    ·obtain ⟨hu1,hu2,hu3,hu4⟩:=hM.step g h0 hkl hel
     have hnn:=bH next
     generalize hu:(bP nd (now.getD k 0)).getD e 0=u at hu1 hu2 hu3 hu4
     by_cases hz:left1.getD u 0 - 1=0
     ·cases hbu:bad.getD u false with
      | true =>
       rw [if_neg (by rw [hbu];simp)] at hu4
       have hg1:(HL.ints (left1.set u (left1.getD u 0 - 1))).getD u .dead=.int .i64 (left1.getD u 0 - 1):=by rw [HL.ints_get _ (by rw [List.length_set];omega),gJ _ _ _ _ _ (by omega),if_pos rfl]
       refine kE (zA @hu (zA @hbu @hg1)) ⟨?_⟩
       exact bg [1,5,6,7,13,14,84,85,86,97,98,99] (e+1,_,q,next) ⟨hel,hq,hu4⟩ dD rfl
      | false =>
       rw [if_pos ⟨hz,hbu⟩] at hu4
       have hg1:(HL.ints (left1.set u (left1.getD u 0 - 1))).getD u .dead=.int .i64 (left1.getD u 0 - 1):=by rw [HL.ints_get _ (by rw [List.length_set];omega),gJ _ _ _ _ _ (by omega),if_pos rfl]
       refine kE (zA @hu (zA @hbu @hg1)) ⟨?_⟩
       exact bg [1,5,6,7,13,14,84,85,86,97,98,99] (e+1,_,q+1,next++[u]) ⟨hel,by simp [hq],hu4⟩ dD rfl
     ·rw [if_neg (fun h=>hz h.1)] at hu4
      have hg1:(HL.ints (left1.set u (left1.getD u 0 - 1))).getD u .dead=.int .i64 (left1.getD u 0 - 1):=by rw [HL.ints_get _ (by rw [List.length_set];omega),gJ _ _ _ _ _ (by omega),if_pos rfl]
      refine kE (zA @hu @hg1) ⟨?_⟩
      exact bg [1,5,6,7,13,14,84,85,86,97,98,99] (e+1,_,q,next) ⟨hel,hq,hu4⟩ dD rfl
    ·obtain rfl:e=(bP nd (now.getD k 0)).length:=by omega
     have hfin:=hstep _ _ hM
     refine zF ⟨?_⟩
     exact bg [1,5,6,7,13,14,84,85,86] (k+1,_,left1,q,next) ⟨hkl,hq,hfin⟩ dD rfl
   ·obtain rfl:k=now.length:=by omega
    have hnew:=Rd.step g h0 hne hM
    have hns:=hM.size
    refine zF ⟨?_⟩
    exact bg [1,5,6,7,8,13] (r+1,D++now,q,next,rank1,left1) ⟨hq,hnew⟩ (by simp only [kL];omega) rfl
end Go.Proofs.Ytjlidhijnohkbaa
