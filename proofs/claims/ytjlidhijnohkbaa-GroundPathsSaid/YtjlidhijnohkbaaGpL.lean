import Derived.Test.YtjlidhijnohkbaaGpM
import Derived.Test.YtjlidhijnohkbaaGpE
import Derived.Test.YtjlidhijnohkbaaGrBig
import Derived.Test.YtjlidhijnohkbaaGrCir
import Derived.Test.YtjlidhijnohkbaaGrLives
import Derived.Test.YtjlidhijnohkbaaHlDn
import Derived.Test.YtjlidhijnohkbaaHlW
set_option linter.unusedSimpArgs false
set_option linter.unusedVariables false
set_option maxHeartbeats 16000000
set_option maxRecDepth 100000
namespace Go.Proofs.Ytjlidhijnohkbaa
open Go.RowKit Go.HL Go.BF
attribute [go_sem] Eo Dy
theorem FX (l:List Int) (n:Int) (hl:l.length<=9223372036854775807) :
  HT Try.prog 11 [I l,.int .i64 n] (fun r=>r=.bool true):=by
 refine HT.of rfl TP (gZ rfl) ?_
 unfold c11
 simp only [I,aB,Nat.reduceAdd]
 refine zL ⟨?_⟩
 refine bU aY iQ (pM n 40 (by omega) (by omega)) ?_
 rintro _ rfl
 have e0:=Int.emod_nonneg n (show (40:Int)≠0 by omega)
 have e1:=Int.emod_lt_of_pos n (show (0:Int)<40 by omega)
 obtain ⟨m0,hm0⟩:∃m:Nat,(m:Int)=n % 40:=⟨(n % 40).toNat,by omega⟩
 rw [<- hm0] at e0 e1 ⊢
 obtain ⟨m,hm⟩:∃m:Nat,(m:Int)=1+(m0:Int):=⟨1+m0,by omega⟩
 refine zG ⟨?_⟩
 clear hm0
 repeat (first|refine l7 ag rfl ?_|refine iZ dP ?_|refine aW ?_|refine dC ?_|refine jF (by rfl) (by rfl) uQ ?_|refine dN ?_|refine dZ (by rfl) ?_|refine eG (by rfl) ?_|refine kQ (by rfl) (by rfl) ?_|refine dV ?_|refine lQ (by rfl) ?_|refine jA (by rfl) bz (by (try simp (disch:=omega) only [go_sem,reduceIte,Nat.reduceEqDiff,Nat.reduceAdd,Nat.reduceMul,<- hm]);try rfl) aF (by (try simp (disch:=omega) only [go_sem,<- hm]);try rfl) ag ?_|refine kw (by rfl) (by rfl) (by (try simp (disch:=omega) only [go_sem,Int.reduceAdd,Int.reduceSub,Int.reduceMul,<- hm]);try rfl) ?_|refine jH (by rfl) aF (by (try simp (disch:=omega) only [go_sem,<- hm]);try rfl) ?_|refine dK ?_|refine tZ ?_|refine iY (by rfl) ag ?_|refine gy (by rfl) ag ?_|refine ni (by rfl) (by rfl) ny ?_|refine gu (by rfl) ?_|refine uX (by rfl) (by rfl) ?_|refine wQ (by rfl) ag ax eH (by rfl) (by decide) bz ax aF (by (try simp (disch:=omega) only [go_sem,<- hm]);try rfl) ax ?_|refine dE ?_|refine kW (by rfl) ?_|refine rU (by rfl) aF ag ?_|refine qX (by rfl) (by rfl) rF ?_|refine nI (by rfl) ?_|refine nM (by rfl) ?_|refine rE (by rfl) (by rfl) ?_|refine qO (by rfl) (by rfl) ?_|refine oK (by rfl) (by (try simp only [go_sem,reduceIte,<- hm]);try rfl) ?_)
 refine bU aY iQ (PG l m (by omega) hl) ?_
 rintro _ ⟨nd,bad,rfl,hnm,g,hd3⟩
 refine zG ⟨?_⟩
 subst hnm
 have h0:0<nd.length:=by omega
 have hbl:=g.bads
 have hsz:=g.size
 have hnl:(nd.map nl).length=nd.length:=by simp
 have hE:stripL (win (dR nd) 0 (nd.length*1))=aO (nd.map nl):=by rw [oU _ (by omega),og]
 have hB:stripL (win (HL.bools bad) 0 (nd.length*1))=HL.bools bad:=by rw [cO _ (by omega),HL.bools_strip]
 refine zK ⟨?_⟩
 refine gI [5,6] (⟨[(5,.ref 0 [] 1 0 nd.length),(6,.ref 1 [] 1 0 nd.length)],[(0,.osl 1 nd.length (dR nd)),(1,.osl 1 nd.length (HL.bools bad))],2⟩:St) rfl ?_
 refine dY 0 [5,6] _ (congrArg (fun c:List HV=>(⟨[(5,.sl nd.length c),(6,.ref 0 [] 1 0 nd.length)],[(0,.osl 1 nd.length (HL.bools bad))],1⟩:St)) hE) ?_
 refine dY 0 [5,6] _ (congrArg (fun c:List HV=>(⟨[(5,.sl nd.length (aO (nd.map nl))),(6,.sl nd.length c)],[],0⟩:St)) hB) ?_
 refine zF ⟨?_⟩
 refine aQ [5,6,7,8] (fun i:Nat=>i<=nd.length)
  (fun i=>⟨[(5,.sl nd.length (aO (nd.map nl))),(6,.sl nd.length (HL.bools bad)),(7,.ref 0 [] 1 0 i),(8,.int .i64 i)],[(0,.osl 1 i (dR (AZ nd i)))],1⟩)
  (fun i=>nd.length - i) 0 (by simp) rfl ?_
 intro i hi
 have hGl:=oD nd i
 have hGs:=Lj nd i
 by_cases hin:i<nd.length
 ·obtain ⟨k,hk⟩:∃k:Nat,(k:Int)=(nd.length:Int) - 1 - i:=⟨nd.length - 1 - i,by omega⟩
  have hkn:k<nd.length:=by omega
  have hk':nd.length - 1 - i=k:=by omega
  rw [hk'] at hGs
  generalize AZ nd i=G at hGl hGs ⊢
  obtain ⟨G2,hG2⟩:∃G2,AZ nd (i+1)=G2:=⟨_,rfl⟩
  rw [hG2] at hGs
  repeat (first|refine l7 ag rfl ?_|refine iZ dP ?_|refine aW ?_|refine dC ?_|refine jF (by rfl) (by rfl) uQ ?_|refine dN ?_|refine dZ (by rfl) ?_|refine eG (by rfl) ?_|refine kQ (by rfl) (by rfl) ?_|refine dV ?_|refine rM (by rfl) ?_|refine lQ (by rfl) ?_|refine jA (by rfl) bz nH aF (by (try simp (disch:=omega) only [go_sem,<- hk]);try rfl) ag ?_|refine kw (by rfl) (by rfl) qo ?_|refine jH (by rfl) aF (by (try simp (disch:=omega) only [go_sem,<- hk]);try rfl) ?_|refine dK ?_|refine tZ ?_|refine iY (by rfl) ag ?_|refine gy (by rfl) ag ?_|refine xW (by rfl) (by rfl) ?_|refine yg (by rfl) (by rfl) ?_|refine ni (by rfl) (by rfl) ny ?_|refine gu (by rfl) ?_|refine uX (by rfl) (by rfl) ?_|refine ul (by rfl) (by rfl) uQ ?_|refine wQ (by rfl) ag ax eH (by rfl) (by decide) bz ax aF (by (try simp (disch:=omega) only [go_sem,<- hk]);try rfl) ax ?_|refine AQ (by rfl) ag ax qj (by first|trivial|(refine ⟨?_,?_⟩<;>trivial)) (by rfl) (by first|exact Cc|decide) (by rfl) AV nH aF (by (try simp (disch:=omega) only [go_sem,<- hk]);try rfl) ax o8 ?_|refine dE ?_|refine kW (by rfl) ?_|refine qJ dP ?_|refine BN dP aY ax eH (by rfl) (by rfl) ?_|refine rU (by rfl) aF ag ?_|refine oz rfl (by rfl) dP ?_|refine wK (by rfl) aF nH ?_|refine qX (by rfl) (by rfl) rF ?_|refine nI (by rfl) ?_|refine wL (by rfl) bz ax aF (by decide) nH eH ?_|refine wJ dP (by rfl) ag yL (by (try simp (disch:=omega) only [go_sem,reduceIte,Nat.reduceEqDiff,Nat.reduceAdd,Nat.reduceMul,<- hk]);try omega) (by omega) kN ?_|refine wB dP (by rfl) ag yL (by (try simp (disch:=omega) only [go_sem,reduceIte,Nat.reduceEqDiff,Nat.reduceAdd,Nat.reduceMul,<- hk]);try omega) bz nH dP (by omega) kN aF nH ax ?_|refine um (by rfl) (by rfl) kK ?_|refine BB Dl Bh (by simp [mg]) ?_|refine wZ dP ag ax eH (by rfl) ?_|refine x8 (by rfl) (by rfl) qo ?_|refine nM (by rfl) ?_|refine xK (by rfl) (by rfl) kK ?_|refine tq ag rfl ?_|refine wU dP (by rfl) (by omega) ax ax ?_|refine xw (by rfl) (by rfl) qo ?_|refine xn (by rfl) (by rfl) (by (try simp only [go_sem,reduceIte,<- hk]);try rfl) ?_|refine rE (by rfl) (by rfl) ?_|refine qO (by rfl) (by rfl) ?_|refine tC dP (by rfl) ag yL (by simp [iK,jh,cellV]) bz ax dP (by omega) kN aF nH ax (by rfl) ?_|refine xA (by rfl) (by rfl) (by omega) qo ?_|refine yf (by rfl) (by rfl) (by omega) qo ?_|refine DI (by rfl) (by rfl) (by (try simp only [go_sem,reduceIte,<- hk]);try rfl) ?_|refine wE dP aY ax qj (by simp) (by rfl) (by rfl) (by rfl) ?_|refine qK (by rfl) (by rfl) (by rfl) (by omega) ax dP nH ?_|refine oG (by rfl) (by rfl) (by rfl) (by omega) ax dP ?_|refine BQ (by rfl) (by rfl) (by exact eY rfl) ag ⟨rfl,rfl⟩ nH (by rfl) ?_|refine CE (by rfl) (by rfl) qo ?_|refine Ky (by rfl) (by rfl) qo ?_|refine AY (by rfl) (by rfl) qo ?_|refine xC (by rfl) (by rfl) (by omega) qo ?_|refine BC (by rfl) (by rfl) (by omega) qo ?_|refine BD (by rfl) (by rfl) (by first|exact ⟨rfl,rfl,rfl,rfl⟩|decide) (by (try simp (disch:=omega) only [mf,go_sem,reduceIte,<- hk]);try rfl) ?_|refine oK (by rfl) (by (try simp only [go_sem,reduceIte,<- hk]);try rfl) ?_|refine Dj (by rfl) qo ?_|refine rC (by rfl) qo ?_|refine BX (by rfl) ag yL (by (try simp (disch:=omega) only [go_sem,reduceIte,Nat.reduceEqDiff,Nat.reduceAdd,Nat.reduceMul,<- hk]);try omega) (by (try simp only [go_sem,reduceIte,Nat.reduceEqDiff,Nat.reduceAdd,Nat.reduceMul,<- hk]);try rfl) nH eH (by omega) bz nH aF nH ax ?_|refine Bv (by rfl) aF ag ?_|refine wI (by rfl) aF nH ?_|refine Bj dP ag rfl ?_|refine wR (by rfl) ?_|refine wV (by rfl) (by omega) ?_|refine wu (by rfl) (by omega) ?_|refine sS dP ?_|refine CQ (eV rfl) ag ⟨rfl,rfl⟩ nH (by rfl) ?_|refine CW (by rfl) ag (by rfl) (by rfl) ?_|refine wO (by rfl) ag ag qi (by trivial) qi (by exact eY rfl) ⟨rfl,rfl⟩ nH ax o8 ?_|refine tJ (eV rfl) (by (try simp (disch:=omega) only [fK,go_sem,reduceIte,Nat.reduceEqDiff,Nat.reduceAdd,Nat.reduceMul,<- hk]);try rfl) ?_|refine tu (by rfl) (by rfl) (by exact eY rfl) (by (try simp (disch:=omega) only [fK,go_sem,reduceIte,Nat.reduceEqDiff,Nat.reduceAdd,Nat.reduceMul,<- hk]);try rfl) ?_|refine tH (by rfl) ?_|refine sF (eV rfl) ?_|refine sQ (by rfl) (by rfl) (by exact eY rfl) ?_|refine tN (by rfl) ?_|refine o6 ag rfl ?_)
  obtain ⟨row,hrow⟩:∃row,nd.getD k []=row:=⟨_,rfl⟩
  have hrlt:∀x∈row,x<nd.length:=by rw [<- hrow];exact g.lt k
  have hrl:row.length<=3:=by rw [<- hrow];exact hd3 k
  have hnr:=bH row
  have hup:Ba nd k=turnRow nd.length (row.filter fun y=>decide (y<k)):=by unfold Ba;rw [hrow]
  rw [hup] at hGs
  refine aQ [5,6,7,8,9,10,11] (fun s:Nat×List Nat=>s.1<=row.length/\s.2=turnRow nd.length ((row.take s.1).filter fun y=>decide (y<k)))
   (fun s=>⟨[(5,.sl nd.length (aO (nd.map nl))),(6,.sl nd.length (HL.bools bad)),(7,.ref 0 [] 1 0 i),(8,.int .i64 i),(9,.ref 1 [] 1 0 s.2.length),(10,.int .i64 k),(11,.int .i64 s.1)],[(0,.osl 1 i (dR G)),(1,.osl 1 s.2.length (HL.ints (nl s.2)))],2⟩)
   (fun s=>row.length - s.1) (0,[]) ⟨by simp,rfl⟩ rfl ?_
  rintro ⟨j,x⟩ ⟨hj,hx⟩
  simp only at hj hx ⊢
  have hxl:=bH x
  have hxs:x.Pairwise (·<·):=by rw [hx];exact qI _ _
  have hx3:x.length<=3:=by
   rw [hx]
   have h1:=xU nd.length ((row.take j).filter fun y=>decide (y<k))
   have h2:=List.length_filter_le (fun y=>decide (y<k)) (row.take j)
   rw [gB] at h2
   omega
  by_cases hjl:j<row.length
  ·obtain ⟨v,hv⟩:∃v,row.getD j 0=v:=⟨_,rfl⟩
   have hvn:v<nd.length:=by rw [<- hv];exact hrlt _ (getD_mem _ _ 0 hjl)
   obtain ⟨u,hu⟩:∃u:Nat,(u:Int)=(nd.length:Int) - 1 - v:=⟨nd.length - 1 - v,by omega⟩
   have hu':nd.length - 1 - v=u:=by omega
   have hfs:=ND (k:=k) hjl
   rw [hv] at hfs
   by_cases hvk:v<k
   ·rw [if_pos hvk] at hfs
    have hx2:jd x u=turnRow nd.length ((row.take (j+1)).filter fun y=>decide (y<k)):=by rw [hfs,Ed,<- hx,hu']
    repeat (first|refine l7 ag rfl ?_|refine iZ dP ?_|refine aW ?_|refine dC ?_|refine jF (by rfl) (by rfl) uQ ?_|refine dN ?_|refine dZ (by rfl) ?_|refine eG (by rfl) ?_|refine kQ (by rfl) (by rfl) ?_|refine dV ?_|refine rM (by rfl) ?_|refine lQ (by rfl) ?_|refine jA (by rfl) bz (by (try simp (disch:=omega) only [go_sem,reduceIte,Nat.reduceEqDiff,Nat.reduceAdd,Nat.reduceMul,aK,hrow,hv,<- hu]);try rfl) aF (by (try simp (disch:=omega) only [go_sem,aK,hrow,hv,<- hu]);try rfl) ag ?_|refine kw (by rfl) (by rfl) (by (try simp (disch:=omega) only [go_sem,Int.reduceAdd,Int.reduceSub,Int.reduceMul,aK,hrow,hv,<- hu]);try rfl) ?_|refine jH (by rfl) aF (by (try simp (disch:=omega) only [go_sem,aK,hrow,hv,<- hu]);try rfl) ?_|refine dK ?_|refine tZ ?_|refine iY (by rfl) ag ?_|refine gy (by rfl) ag ?_|refine xW (by rfl) (by rfl) ?_|refine yg (by rfl) (by rfl) ?_|refine ni (by rfl) (by rfl) ny ?_|refine gu (by rfl) ?_|refine uX (by rfl) (by rfl) ?_|refine ul (by rfl) (by rfl) uQ ?_|refine wQ (by rfl) ag ax eH (by rfl) (by decide) bz ax aF (by (try simp (disch:=omega) only [go_sem,aK,hrow,hv,<- hu]);try rfl) ax ?_|refine AQ (by rfl) ag ax qj (by first|trivial|(refine ⟨?_,?_⟩<;>trivial)) (by rfl) (by first|exact Cc|decide) (by rfl) AV (by (try simp (disch:=omega) only [go_sem,reduceIte,Nat.reduceEqDiff,Nat.reduceAdd,Nat.reduceMul,aK,hrow,hv,<- hu]);try rfl) aF (by (try simp (disch:=omega) only [go_sem,aK,hrow,hv,<- hu]);try rfl) ax o8 ?_|refine dE ?_|refine kW (by rfl) ?_|refine qJ dP ?_|refine BN dP aY ax eH (by rfl) (by rfl) ?_|refine rU (by rfl) aF ag ?_|refine oz rfl (by rfl) dP ?_|refine wK (by rfl) aF (by (try simp (disch:=omega) only [go_sem,reduceIte,Nat.reduceEqDiff,Nat.reduceAdd,Nat.reduceMul,aK,hrow,hv,<- hu]);try rfl) ?_|refine qX (by rfl) (by rfl) rF ?_|refine nI (by rfl) ?_|refine wL (by rfl) bz ax aF (by decide) (by (try simp (disch:=omega) only [go_sem,reduceIte,Nat.reduceEqDiff,Nat.reduceAdd,Nat.reduceMul,aK,hrow,hv,<- hu]);try rfl) eH ?_|refine wJ dP (by rfl) ag yL (by (try simp (disch:=omega) only [go_sem,reduceIte,Nat.reduceEqDiff,Nat.reduceAdd,Nat.reduceMul,aK,hrow,hv,<- hu]);try omega) (by omega) kN ?_|refine wB dP (by rfl) ag yL (by (try simp (disch:=omega) only [go_sem,reduceIte,Nat.reduceEqDiff,Nat.reduceAdd,Nat.reduceMul,aK,hrow,hv,<- hu]);try omega) bz (by (try simp (disch:=omega) only [go_sem,reduceIte,Nat.reduceEqDiff,Nat.reduceAdd,Nat.reduceMul,aK,hrow,hv,<- hu]);try rfl) dP (by omega) kN aF (by (try simp (disch:=omega) only [go_sem,reduceIte,Nat.reduceEqDiff,Nat.reduceAdd,Nat.reduceMul,aK,hrow,hv,<- hu]);try rfl) ax ?_|refine um (by rfl) (by rfl) kK ?_|refine BB Dl Bh (by simp [mg]) ?_|refine wZ dP ag ax eH (by rfl) ?_|refine x8 (by rfl) (by rfl) (by (try simp (disch:=omega) only [go_sem,Int.reduceAdd,Int.reduceSub,Int.reduceMul,aK,hrow,hv,<- hu]);try rfl) ?_|refine nM (by rfl) ?_|refine xK (by rfl) (by rfl) kK ?_|refine tq ag rfl ?_|refine wU dP (by rfl) (by omega) ax ax ?_|refine xw (by rfl) (by rfl) (by (try simp (disch:=omega) only [go_sem,Int.reduceAdd,Int.reduceSub,Int.reduceMul,aK,hrow,hv,<- hu]);try rfl) ?_|refine xn (by rfl) (by rfl) (by (try simp only [go_sem,reduceIte,aK,hrow,hv,<- hu]);try rfl) ?_|refine rE (by rfl) (by rfl) ?_|refine qO (by rfl) (by rfl) ?_|refine tC dP (by rfl) ag yL (by simp [iK,jh,cellV]) bz ax dP (by omega) kN aF (by (try simp (disch:=omega) only [go_sem,reduceIte,Nat.reduceEqDiff,Nat.reduceAdd,Nat.reduceMul,aK,hrow,hv,<- hu]);try rfl) ax (by rfl) ?_|refine xA (by rfl) (by rfl) (by omega) (by (try simp (disch:=omega) only [go_sem,Int.reduceAdd,Int.reduceSub,Int.reduceMul,aK,hrow,hv,<- hu]);try rfl) ?_|refine yf (by rfl) (by rfl) (by omega) (by (try simp (disch:=omega) only [go_sem,Int.reduceAdd,Int.reduceSub,Int.reduceMul,aK,hrow,hv,<- hu]);try rfl) ?_|refine DI (by rfl) (by rfl) (by (try simp only [go_sem,reduceIte,aK,hrow,hv,<- hu]);try rfl) ?_|refine wE dP aY ax qj (by simp) (by rfl) (by rfl) (by rfl) ?_|refine qK (by rfl) (by rfl) (by rfl) (by omega) ax dP (by (try simp (disch:=omega) only [go_sem,reduceIte,Nat.reduceEqDiff,Nat.reduceAdd,Nat.reduceMul,aK,hrow,hv,<- hu]);try rfl) ?_|refine oG (by rfl) (by rfl) (by rfl) (by omega) ax dP ?_|refine BQ (by rfl) (by rfl) (by exact eY rfl) ag ⟨rfl,rfl⟩ (by (try simp (disch:=omega) only [go_sem,reduceIte,Nat.reduceEqDiff,Nat.reduceAdd,Nat.reduceMul,aK,hrow,hv,<- hu]);try rfl) (by rfl) ?_|refine CE (by rfl) (by rfl) (by (try simp (disch:=omega) only [go_sem,Int.reduceAdd,Int.reduceSub,Int.reduceMul,aK,hrow,hv,<- hu]);try rfl) ?_|refine Ky (by rfl) (by rfl) (by (try simp (disch:=omega) only [go_sem,Int.reduceAdd,Int.reduceSub,Int.reduceMul,aK,hrow,hv,<- hu]);try rfl) ?_|refine AY (by rfl) (by rfl) (by (try simp (disch:=omega) only [go_sem,Int.reduceAdd,Int.reduceSub,Int.reduceMul,aK,hrow,hv,<- hu]);try rfl) ?_|refine xC (by rfl) (by rfl) (by omega) (by (try simp (disch:=omega) only [go_sem,Int.reduceAdd,Int.reduceSub,Int.reduceMul,aK,hrow,hv,<- hu]);try rfl) ?_|refine BC (by rfl) (by rfl) (by omega) (by (try simp (disch:=omega) only [go_sem,Int.reduceAdd,Int.reduceSub,Int.reduceMul,aK,hrow,hv,<- hu]);try rfl) ?_|refine BD (by rfl) (by rfl) (by first|exact ⟨rfl,rfl,rfl,rfl⟩|decide) (by (try simp (disch:=omega) only [mf,go_sem,reduceIte,aK,hrow,hv,<- hu]);try rfl) ?_|refine oK (by rfl) (by (try simp only [go_sem,reduceIte,aK,hrow,hv,<- hu]);try rfl) ?_|refine Dj (by rfl) (by (try simp (disch:=omega) only [go_sem,Int.reduceAdd,Int.reduceSub,Int.reduceMul,aK,hrow,hv,<- hu]);try rfl) ?_|refine rC (by rfl) (by (try simp (disch:=omega) only [go_sem,Int.reduceAdd,Int.reduceSub,Int.reduceMul,aK,hrow,hv,<- hu]);try rfl) ?_|refine BX (by rfl) ag yL (by (try simp (disch:=omega) only [go_sem,reduceIte,Nat.reduceEqDiff,Nat.reduceAdd,Nat.reduceMul,aK,hrow,hv,<- hu]);try omega) (by (try simp only [go_sem,reduceIte,Nat.reduceEqDiff,Nat.reduceAdd,Nat.reduceMul,aK,hrow,hv,<- hu]);try rfl) (by (try simp (disch:=omega) only [go_sem,reduceIte,Nat.reduceEqDiff,Nat.reduceAdd,Nat.reduceMul,aK,hrow,hv,<- hu]);try rfl) eH (by omega) bz (by (try simp (disch:=omega) only [go_sem,reduceIte,Nat.reduceEqDiff,Nat.reduceAdd,Nat.reduceMul,aK,hrow,hv,<- hu]);try rfl) aF (by (try simp (disch:=omega) only [go_sem,reduceIte,Nat.reduceEqDiff,Nat.reduceAdd,Nat.reduceMul,aK,hrow,hv,<- hu]);try rfl) ax ?_|refine Bv (by rfl) aF ag ?_|refine wI (by rfl) aF (by (try simp (disch:=omega) only [go_sem,reduceIte,Nat.reduceEqDiff,Nat.reduceAdd,Nat.reduceMul,aK,hrow,hv,<- hu]);try rfl) ?_|refine Bj dP ag rfl ?_|refine wR (by rfl) ?_|refine wV (by rfl) (by omega) ?_|refine wu (by rfl) (by omega) ?_|refine sS dP ?_|refine CQ (eV rfl) ag ⟨rfl,rfl⟩ (by (try simp (disch:=omega) only [go_sem,reduceIte,Nat.reduceEqDiff,Nat.reduceAdd,Nat.reduceMul,aK,hrow,hv,<- hu]);try rfl) (by rfl) ?_|refine CW (by rfl) ag (by rfl) (by rfl) ?_|refine wO (by rfl) ag ag qi (by trivial) qi (by exact eY rfl) ⟨rfl,rfl⟩ (by (try simp (disch:=omega) only [go_sem,reduceIte,Nat.reduceEqDiff,Nat.reduceAdd,Nat.reduceMul,aK,hrow,hv,<- hu]);try rfl) ax o8 ?_|refine tJ (eV rfl) (by (try simp (disch:=omega) only [fK,go_sem,reduceIte,Nat.reduceEqDiff,Nat.reduceAdd,Nat.reduceMul,aK,hrow,hv,<- hu]);try rfl) ?_|refine tu (by rfl) (by rfl) (by exact eY rfl) (by (try simp (disch:=omega) only [fK,go_sem,reduceIte,Nat.reduceEqDiff,Nat.reduceAdd,Nat.reduceMul,aK,hrow,hv,<- hu]);try rfl) ?_|refine tH (by rfl) ?_|refine sF (eV rfl) ?_|refine sQ (by rfl) (by rfl) (by exact eY rfl) ?_|refine tN (by rfl) ?_|refine o6 ag rfl ?_)
    refine bU aY (zW @bH) (yO x u (by omega) hxs) ?_
    rintro _ rfl
    refine zG ⟨?_⟩
    refine zF ⟨?_⟩
    exact bg [5,6,7,8,9,10,11] (j+1,jd x u) ⟨hjl,hx2⟩ dD rfl
   ·rw [if_neg hvk] at hfs
    refine kE (zA @aK (zA @hrow @hv)) ⟨?_⟩
    exact bg [5,6,7,8,9,10,11] (j+1,x) ⟨hjl,by rw [hfs];exact hx⟩ dD rfl
  ·obtain rfl:j=row.length:=by omega
   rw [lV] at hx
   rw [<- hx] at hGs
   have hsn:=uA G x rfl
   rw [hGs] at hsn
   refine kE (zA @aK (zA @hrow @hsn)) ⟨?_⟩
   refine bg [5,6,7,8] (i+1) hin (by omega) ?_
   rw [hG2]
   rfl
 ·obtain rfl:i=nd.length:=by omega
  have g':=Sm g
  have up:=Ru hd3
  have hf3:=Nl hd3
  rw [<- hGl] at h0
  have hnl':((AZ nd nd.length).map nl).length=(AZ nd nd.length).length:=by simp
  have hE':stripL (win (dR (AZ nd nd.length)) 0 (nd.length*1))=aO ((AZ nd nd.length).map nl):=by rw [oU _ (by omega),og]
  have hbl':=g'.bads
  have hsz':=g'.size
  refine dC ?_
  refine dC ?_
  refine aW ?_
  refine zQ ⟨?_⟩
  refine eG (by rfl) ?_
  refine gu (by rfl) ?_
  refine gI [6,7] (⟨[(6,.sl nd.length (HL.bools bad)),(7,.ref 0 [] 1 0 nd.length)],[(0,.osl 1 nd.length (dR (AZ nd nd.length)))],1⟩:St) rfl ?_
  refine dY 0 [6,7] _ (congrArg (fun c:List HV=>(⟨[(6,.sl nd.length (HL.bools bad)),(7,.sl nd.length c)],[],0⟩:St)) hE') ?_
  clear hE' hE hB hGs hin hi
  obtain ⟨G,hG⟩:∃G,AZ nd nd.length=G:=⟨_,rfl⟩
  rw [hG] at h0 g' up hf3 hnl' hbl' hsz' hGl ⊢
  rw [<- hGl]
  clear hG
  have hnoc:∀cp:List Nat,CirRes G bad cp->cp=[]:=fun cp hc=>by
   rcases Nat.eq_zero_or_pos cp.length with h|h
   ·exact fG h
   ·obtain ⟨c,hcc⟩:=hc.circ g' h
    exact (KO up hcc).elim
  refine zF ⟨?_⟩
  refine Jo 16 [0,1,1] [6,7,12,13] (⟨[(6,.sl G.length (HL.bools bad)),(7,.sl G.length (aO (G.map nl))),(12,.pref 0 [] 0),(13,.int .i64 (0:Nat))],[(0,.optr [.int .i64 4,.osl 1 0 (dR (wo G bad 0)),.osl 1 0 (HL.bools (xY G bad 0))])],1⟩:St) rfl rfl ?_
  refine aQ [6,7,12,13] (fun i:Nat=>i<=G.length+1) (fun i=>⟨[(6,.sl G.length (HL.bools bad)),(7,.sl G.length (aO (G.map nl))),(12,.pref 0 [] 0),(13,.int .i64 (i:Nat))],[(0,.optr [.int .i64 4,.osl 1 i (dR (wo G bad i)),.osl 1 i (HL.bools (xY G bad i))])],1⟩) (fun i=>G.length+1 - i) 0 (gX _) rfl ?_
  intro i hi
  by_cases hin:i<=G.length
  ·have hsn:=uA (wo G bad i) (NW G bad i) (m:=4) (IQ i).symm
   rw [Nk] at hsn
   have hwR:win (dR (wo G bad i)) 0 i=dR (wo G bad i):=oU _ (Eo i).symm
   refine zF ⟨?_⟩
   refine gI [6,7,12,13,14,15] (⟨[(6,.sl G.length (HL.bools bad)),(7,.sl G.length (aO (G.map nl))),(12,.pref 0 [] 0),(13,.int .i64 (i:Nat)),(14,.ref 1 [] 1 0 4),(15,.int .i64 (0:Nat))],[(0,.optr [.int .i64 4,.osl 1 i (dR (wo G bad i)),.osl 1 i (HL.bools (xY G bad i))]),(1,.osl 1 4 (HL.ints (nl (Jd G bad i 0))))],2⟩:St) rfl ?_
   refine Qr G bad g' i hin ?_
   refine kE (zA @hwR @hsn) ⟨?_⟩
   refine gI [6,7,12,13] (⟨[(6,.sl G.length (HL.bools bad)),(7,.sl G.length (aO (G.map nl))),(12,.pref 0 [] 0),(13,.int .i64 (i:Nat))],[(0,.optr [.int .i64 4,.osl 1 (i+1) (dR (wo G bad (i+1))),.osl 1 i (HL.bools (xY G bad i))])],1⟩:St) rfl ?_
   refine QO G bad g' i hin ?_
   refine zF ⟨?_⟩
   exact bg [6,7,12,13] (i+1) (by omega) (by omega) rfl
  ·obtain rfl:i=G.length+1:=by omega
   have hLe:=JO (SE g')
   refine dC ?_
   refine dC ?_
   refine aW ?_
   refine zQ ⟨?_⟩
   refine eG (by rfl) ?_
   refine gu (by rfl) ?_
   refine dY 0 [6,7,12] (⟨[(6,.sl G.length (HL.bools bad)),(7,.sl G.length (aO (G.map nl))),(12,.ptr (stripL [.int .i64 4,.osl 1 (G.length+1) (dR (wo G bad (G.length+1))),.osl 1 (G.length+1) (HL.bools (xY G bad (G.length+1)))]) 0)],[],0⟩:St) rfl ?_
   rw [show stripL [.int .i64 4,.osl 1 (G.length+1) (dR (wo G bad (G.length+1))),.osl 1 (G.length+1) (HL.bools (xY G bad (G.length+1)))]=[.int .i64 4,.sl (G.length+1) (rT (wo G bad (G.length+1))),.sl (G.length+1) (HL.bools (xY G bad (G.length+1)))] by simp [stripL,HV.strip,Uc,HL.bools_strip]]
   refine zF ⟨?_⟩
   refine bU aY (zW @zO) (hLe) ?_
   rintro _ (⟨w,hL,rfl⟩|⟨hN,rfl⟩)
   ·have hL2:=NR g' hL
    have hws:=fun out=>LC (out:=out) up h0 hL2
    have hwl:=yG up h0 hL2.2.1
    refine zG ⟨?_⟩
    refine zF ⟨?_⟩
    refine bU aY (by simp (disch:=omega) only [bI,Gs,hnl',hbl',HV.thaw,bn,au,ah,if_true,if_false,reduceIte,Nat.reduceEqDiff,stripL,HV.strip,dQ,cO,Nat.mul_one,List.cons_append,List.nil_append,List.append_nil,I,Bl,T3,List.getD_cons_zero,List.getD_cons_succ,HL.ints_strip,HL.bools_strip,dF];try rfl) (rO G bad 0 g') ?_
    rintro _ ⟨out,rfl,hol,hW⟩
    have hout:=hws out hW
    have hoL:out.length=w.length+1:=by rw [hout,List.length_cons,Ef]
    refine zG ⟨?_⟩
    refine zQ ⟨?_⟩
    refine dY 16 [6,7,16,17,18] (⟨[(6,.sl G.length (HL.bools bad)),(7,.sl G.length (aO (G.map nl))),(16,.sl w.length (stripL (win (HL.ints (nl w)) 0 (w.length*1)))),(17,.bool true),(18,.ref 0 [] 1 0 out.length)],[(0,.osl 1 out.length (HL.ints (nl out)))],1⟩:St) rfl ?_
    rw [show stripL (win (HL.ints (nl w)) 0 (w.length*1))=HL.ints (nl w) by rw [Nat.mul_one,kY _ (by simp [HL.ints,nl]),HL.ints_strip]]
    refine zF ⟨?_⟩
    refine bU aY (by simp (disch:=omega) only [bI,Gs,hnl',hbl',HV.thaw,bn,au,ah,if_true,if_false,reduceIte,Nat.reduceEqDiff,stripL,HV.strip,dQ,cO,Nat.mul_one,List.cons_append,List.nil_append,List.append_nil,I,Bl,T3,List.getD_cons_zero,List.getD_cons_succ,HL.ints_strip,HL.bools_strip,dF];try rfl) (Bo G bad g') ?_
    rintro _ ⟨cp,rfl,hc⟩
    obtain rfl:=hnoc cp hc
    refine zG ⟨?_⟩
    refine zF ⟨?_⟩
    refine gI [7,16,18,19,20] (⟨[(7,.sl G.length (aO (G.map nl))),(16,.sl w.length (HL.ints (nl w))),(18,.ref 0 [] 1 0 out.length),(19,.ref 1 [] 1 0 1),(20,.int .i64 (0:Nat))],[(0,.osl 1 out.length (HL.ints (nl out))),(1,.osl 1 1 (HL.ints (nl (0::xG G bad 0 (w.take 0)))))],2⟩:St) rfl ?_
    refine Ox G bad g' up h0 w out hL2.2.1 ?_
    rw [<- hout,<- hoL]
    have hsame:=KL (nl out) (nl out) (by rw [bH];omega) (by rw [bH];omega)
    refine zF ⟨?_⟩
    have hwo:win (HL.ints (nl out)) 0 out.length=HL.ints (nl out):=kY _ (by simp [HL.ints,nl])
    refine bU aY (zW (zA @bH @hwo)) (hsame) ?_
    rintro _ ⟨b,rfl,hb⟩
    obtain rfl:b=true:=hb.2 rfl
    refine zG ⟨?_⟩
    refine zF ⟨?_⟩
    refine bU aY iQ (EN) ?_
    rintro _ rfl
    refine zG ⟨?_⟩
    refine zF ⟨?_⟩
    refine az ?_
    rfl
   ·have hwn:=fun out=>Lt (out:=out) up h0 (O1 g' hN)
    refine zG ⟨?_⟩
    refine zF ⟨?_⟩
    refine bU aY (by simp (disch:=omega) only [bI,Gs,hnl',hbl',HV.thaw,bn,au,ah,if_true,if_false,reduceIte,Nat.reduceEqDiff,stripL,HV.strip,dQ,cO,Nat.mul_one,List.cons_append,List.nil_append,List.append_nil,I,Bl,T3,List.getD_cons_zero,List.getD_cons_succ,HL.ints_strip,HL.bools_strip,dF];try rfl) (rO G bad 0 g') ?_
    rintro _ ⟨out,rfl,hol,hW⟩
    obtain rfl:=hwn out hW
    refine zG ⟨?_⟩
    refine zF ⟨?_⟩
    refine bU aY (by simp (disch:=omega) only [bI,Gs,hnl',hbl',HV.thaw,bn,au,ah,if_true,if_false,reduceIte,Nat.reduceEqDiff,stripL,HV.strip,dQ,cO,Nat.mul_one,List.cons_append,List.nil_append,List.append_nil,I,Bl,T3,List.getD_cons_zero,List.getD_cons_succ,HL.ints_strip,HL.bools_strip,dF];try rfl) (Bo G bad g') ?_
    rintro _ ⟨cp,rfl,hc⟩
    obtain rfl:=hnoc cp hc
    refine zG ⟨?_⟩
    refine zF ⟨?_⟩
    refine bU aY iQ (EN) ?_
    rintro _ rfl
    refine zG ⟨?_⟩
    refine zF ⟨?_⟩
    refine az ?_
    rfl
end Go.Proofs.Ytjlidhijnohkbaa
