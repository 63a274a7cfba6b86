import Derived.Test.YtjlidhijnohkbaaGrBfs
import Derived.Test.YtjlidhijnohkbaaGrV
import Derived.Test.YtjlidhijnohkbaaHlW
set_option linter.unusedSimpArgs false
set_option linter.unusedVariables false
set_option maxHeartbeats 8000000
namespace Go.Proofs.Ytjlidhijnohkbaa
open Go.RowKit Go.HL
theorem QG (fl:List Nat) (off m:Nat) (h:off+m=fl.length):win (HL.ints (nl fl)) off m=HL.ints (nl (fl.drop off)):=by
 unfold win
 split
 ·rename_i hc;rw [hc.1];simp
 ·have e:HL.ints (nl (fl.drop off))=(HL.ints (nl fl)).drop off:=by simp [HL.ints,nl,List.map_drop]
  rw [e,mW (by simp [HL.ints,nl];omega)]
theorem Jz (fl:List Nat) (off:Nat) (h:off<fl.length):fl.drop off=fl.getD off 0::fl.drop (off+1):=by
 rw [Ja h,mQ h]
theorem Ll (nd:List (List Nat)) (bad:List Bool) (g:Gr nd bad) (i:Nat) (hi:i<nd.length):HT Try.prog 43 [Gs (nd.map nl),Bl bad,.int .i64 i] (fun r=>∃out,r=.osl 1 nd.length (HL.ints out)/\IsDist nd bad i out):=by
 have hsz:=g.size
 have hbl:=g.bads
 have hnl:(nd.map nl).length=nd.length:=by simp
 refine HT.of rfl QV (gZ rfl) ?_
 unfold Ul
 simp only [Gs,Bl,aB,Nat.reduceAdd]
 rw [hnl,hbl]
 refine zF ⟨?_⟩
 refine bU aY iQ (Qv nd.length (by omega) hsz) ?_
 rintro _ rfl
 refine zG ⟨?_⟩
 have hrl:(List.replicate nd.length (-1:Int)).length=nd.length:=by simp
 have h0:Bf nd i bad [] [i] ((List.replicate nd.length (-1)).set i 0) 0:=Bf.first hi
 refine zF ⟨?_⟩
 refine aQ [0,1,7,8] (fun s:List Nat×List Nat×Nat×Nat×List Int×Int=>s.2.2.1+s.2.2.2.1=s.2.1.length/\Bf nd i bad s.1 (s.2.1.drop s.2.2.1) s.2.2.2.2.1 s.2.2.2.2.2/\Closed nd bad s.1 s.2.2.2.2.1)
  (fun s=>⟨[(0,.sl nd.length (aO (nd.map nl))),(1,.sl nd.length (HL.bools bad)),(7,.ref 0 [] 1 0 nd.length),(8,.ref 1 [] 1 s.2.2.1 s.2.2.2.1)],[(0,.osl 1 nd.length (HL.ints s.2.2.2.2.1)),(1,.osl 1 s.2.1.length (HL.ints (nl s.2.1)))],2⟩)
  (fun s=>nd.length - s.1.length) ([],[i],0,1,(List.replicate nd.length (-1)).set i 0,0) ⟨rfl,h0,fun k hk=>by cases hk⟩ rfl ?_
 clear h0
 rintro ⟨done,fl,off,m,out,lo⟩ ⟨hm,hB,hC⟩
 simp only at hm hB hC ⊢
 have hol:=hB.len
 have hfl:=bH fl
 by_cases hm0:m=0
 ·have hd:fl.drop off=[]:=List.drop_eq_nil_of_le (by omega)
  rw [hd] at hB
  refine zF ⟨?_⟩
  refine az ?_
  exact ⟨out,rfl,hB.dist g hi hC⟩
 ·have hoff:off<fl.length:=by omega
  have hdr:=Jz fl off hoff
  rw [hdr] at hB
  generalize hk:fl.getD off 0=k at hB
  have hkm:k∈done++k::fl.drop (off+1):=by simp
  have hkn:=hB.lt k hkm
  have hkf:=hB.few k hkm
  have hk0:=(hB.vis k hkn).1.2 hkm
  have hsize:=hB.size
  simp only [List.length_cons] at hsize
  have hdn:done.length<nd.length:=by omega
  have hT:=hB.take
  have hrk:=bH (nd.getD k [])
  have hgk:=g.len k
  have hoff1:off+1+((m:Int) - 1).toNat=fl.length:=by omega
  cases hbk:bad.getD k false with
  | true =>
   have hC2:Closed nd bad (done++[k]) out:=by
    intro p hp hb
    rcases zl001.1 hp with h|h
    ·exact hC p h hb
    ·simp at h;subst h;rw [hbk] at hb;cases hb
   repeat (first|refine l7 ag rfl ?_|refine iZ dP ?_|refine aW ?_|refine dC ?_|refine dN ?_|refine dZ (by rfl) ?_|refine dV ?_|refine jA (by rfl) bz (by (try simp (disch:=omega) only [go_sem,reduceIte,Nat.reduceEqDiff,Nat.reduceAdd,Nat.reduceMul,hk,hbk]);try rfl) aF (by (try simp (disch:=omega) only [go_sem,hk,hbk]);try rfl) ag ?_|refine jH (by rfl) aF (by (try simp (disch:=omega) only [go_sem,hk,hbk]);try rfl) ?_|refine dK ?_|refine gu (by rfl) ?_|refine ul (by rfl) (by rfl) uQ ?_|refine dE ?_|refine kW (by rfl) ?_|refine oG (by rfl) (by rfl) (by rfl) (by omega) ax dP ?_)
   exact bg [0,1,7,8] (done++[k],fl,off+1,((m:Int) - 1).toNat,out,out.getD k 0) ⟨hoff1,hT,hC2⟩ (by simp only [kL,List.length_cons,List.length_nil];omega) rfl
  | false =>
   generalize hc:out.getD k 0=c at hT hkf hk0
   repeat (first|refine l7 ag rfl ?_|refine iZ dP ?_|refine aW ?_|refine dC ?_|refine dN ?_|refine dZ (by rfl) ?_|refine eG (by rfl) ?_|refine dV ?_|refine lQ (by rfl) ?_|refine jA (by rfl) bz (by (try simp (disch:=omega) only [go_sem,reduceIte,Nat.reduceEqDiff,Nat.reduceAdd,Nat.reduceMul,hk,hbk,aK]);try rfl) aF (by (try simp (disch:=omega) only [go_sem,hk,hbk,aK]);try rfl) ag ?_|refine jH (by rfl) aF (by (try simp (disch:=omega) only [go_sem,hk,hbk,aK]);try rfl) ?_|refine dK ?_|refine ul (by rfl) (by rfl) uQ ?_|refine dE ?_|refine kW (by rfl) ?_|refine oG (by rfl) (by rfl) (by rfl) (by omega) ax dP ?_)
   refine aQ [0,1,7,8,9,36,37,38] (fun s:Nat×List Nat×Nat×Nat×List Int=>s.1<=(nd.getD k []).length/\s.2.2.1+s.2.2.2.1=s.2.1.length/\Bf nd i bad (done++[k]) (s.2.1.drop s.2.2.1) s.2.2.2.2 c/\s.2.2.2.2.getD k 0=c/\Closed nd bad done s.2.2.2.2/\∀q,q<s.1->0<=s.2.2.2.2.getD ((nd.getD k []).getD q 0) 0/\s.2.2.2.2.getD ((nd.getD k []).getD q 0) 0<=c+1)
    (fun s=>⟨[(0,.sl nd.length (aO (nd.map nl))),(1,.sl nd.length (HL.bools bad)),(7,.ref 0 [] 1 0 nd.length),(8,.ref 1 [] 1 s.2.2.1 s.2.2.2.1),(9,.int .i64 k),(36,.sl (nd.getD k []).length (HL.ints (nl (nd.getD k [])))),(37,.int .i64 (nd.getD k []).length),(38,.int .i64 s.1)],[(0,.osl 1 nd.length (HL.ints s.2.2.2.2)),(1,.osl 1 s.2.1.length (HL.ints (nl s.2.1)))],2⟩)
    (fun s=>(nd.getD k []).length - s.1) (0,fl,off+1,((m:Int) - 1).toNat,out) ⟨by simp,hoff1,hT,hc,hC,by simp⟩ rfl ?_
   clear hsize hT hC hoff1 hB hdr hoff hm0 hfl hol hm hk hc hkm
   clear out m off fl
   rintro ⟨e,fl,off,m,out⟩ ⟨he,hm,hB,hc,hC,hq⟩
   simp only at he hm hB hc hC hq ⊢
   have hol:=hB.len
   have hfl:=bH fl
   have hsz2:=hB.size
   simp only [kL,List.length_cons,List.length_nil,lT] at hsz2
   by_cases hel:e<(nd.getD k []).length
   ·have hjm:=getD_mem (nd.getD k []) e 0 hel
    have hjn:=g.lt k _ hjm
    generalize hj:(nd.getD k []).getD e 0=j at hjm hjn
    by_cases hneg:out.getD j 0<0
    ·have hB2:=hB.find hc.symm (by rw [hc];exact hkf) hbk hjn hjm hneg
     have hkne:j≠k:=fun h=>by subst h;omega
     have hC2:=hC.set (x:=c+1) (by omega) hneg fun p hp=>(hB.vis p (hB.lt p (by simp [hp]))).1.2 (by simp [hp])
     have hgs:∀v,(out.set j (c+1)).getD v 0=if j=v then c+1 else out.getD v 0:=fun v=>gJ _ _ _ _ _ (by omega)
     have hw:=QG fl off m hm
     have hdl:(fl.drop off++[j]).length=m+1:=by simp;omega
     rw [hc] at hB2
     have hck:c<=256:=by omega
     refine kE (zA @hj (zA @hc @hw)) ⟨?_⟩
     refine bg [0,1,7,8,9,36,37,38] (e+1,fl.drop off++[j],0,m+1,out.set j (c+1)) ⟨hel,by simp only;omega,by simp only [List.drop_zero];exact hB2,by simp only;rw [hgs,if_neg hkne];exact hc,hC2,fun q hq'=>?_⟩ dD (by rw [<- hdl];rfl)
     simp only
     rw [hgs]
     split
     ·omega
     ·rename_i hne
      by_cases h:q=e
      ·subst h;exact absurd hj.symm hne
      ·exact hq q (by omega)
    ·have hs:=hB.seen hjn (by omega)
     refine kE @hj ⟨?_⟩
     refine bg [0,1,7,8,9,36,37,38] (e+1,fl,off,m,out) ⟨hel,hm,hB,hc,hC,fun q hq'=>?_⟩ dD rfl
     by_cases h:q=e
     ·subst h;simp only;rw [hj];omega
     ·exact hq q (by simp only at hq';omega)
   ·have hC2:Closed nd bad (done++[k]) out:=by
     intro p hp hb v hv
     rcases zl001.1 hp with h|h
     ·exact hC p h hb v hv
     ·simp at h;subst h
      obtain ⟨q,hq1,rfl⟩:=gQ 0 hv
      rw [hc]
      exact hq q (by omega)
    refine zF ⟨?_⟩
    exact bg [0,1,7,8] (done++[k],fl,off,m,out,c) ⟨hm,hB,hC2⟩ (by simp only [kL,List.length_cons,List.length_nil];omega) rfl
end Go.Proofs.Ytjlidhijnohkbaa
