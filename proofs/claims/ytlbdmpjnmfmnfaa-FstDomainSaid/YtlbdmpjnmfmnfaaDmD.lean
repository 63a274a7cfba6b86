import Derived.Test.YtlbdmpjnmfmnfaaDmC
import Derived.Test.YtlbdmpjnmfmnfaaMnE
import Derived.Test.YtlbdmpjnmfmnfaaHlW
set_option linter.unusedSimpArgs false
set_option linter.unusedVariables false
set_option maxHeartbeats 16000000
namespace Go.Proofs.Ytlbdmpjnmfmnfaa
open Go.RowKit Go.HL Go.FS Go.MN
def pz (f:Nat->List UInt8):Nat->List Nat
 | 0=>[]
 | i+1=>if f i∈firsts f i then pz f i else pz f i++[i]
theorem KQ {f:Nat->List UInt8} {i:Nat} (h:f i∈firsts f i):pz f (i+1)=pz f i:=by rw [pz,if_pos h]
theorem Gh {f:Nat->List UInt8} {i:Nat} (h:f i ∉ firsts f i):pz f (i+1)=pz f i++[i]:=by rw [pz,if_neg h]
theorem yU (f:Nat->List UInt8):∀i,(pz f i).map f=firsts f i
 | 0=>rfl
 | i+1=>by
  by_cases h:f i∈firsts f i
  ·rw [KQ h,iK f h];exact yU f i
  ·rw [Gh h,iP f h,oW,yU f i];rfl
theorem Ld (f:Nat->List UInt8):∀i,∀x∈pz f i,x<i
 | 0,x,h=>by cases h
 | i+1,x,h=>by
  by_cases e:f i∈firsts f i
  ·rw [KQ e] at h;have:=Ld f i x h;omega
  ·rw [Gh e] at h
   rcases zl002.1 h with h|h
   ·have:=Ld f i x h;omega
   ·rw [zl009.1 h];omega
theorem WH (f:Nat->List UInt8) (i:Nat):(pz f i).length=(firsts f i).length:=by rw [<- yU,List.length_map]
theorem Z8 {f:Nat->List UInt8} {n i k:Nat} (hi:i<n) (hk:k<(pz f i).length) (h:f ((pz f i).getD k 0)=f i):f i∈firsts f i/\num f n i=k:=by
 have e:(firsts f i)[k]?=some (f i):=by
  rw [<- yU,fZ,bn hk]
  rw [bf,bn hk] at h
  exact congrArg some h
 have hm:=Oy e
 refine ⟨hm,?_⟩
 rw [Fz f (zJ i) hi]
 unfold num
 rw [iK f hm]
 exact MS (rP f i) e
theorem YV {f:Nat->List UInt8} {i:Nat} (h:∀k,k<(pz f i).length->f ((pz f i).getD k 0)≠f i):f i ∉ firsts f i:=fun hm=>by
 rw [<- yU] at hm
 obtain ⟨x,hx,e⟩:=zl020.1 hm
 obtain ⟨k,hk,rfl⟩:=uD hx
 refine h k hk ?_
 rw [bf,bn hk]
 exact e
theorem OC (d:Dz) (hv:okD d=true):HT Try.prog 111 [.agg (dC d)] (fun r=>∃c m,Cls (bK d) (iW d) d.nx.length c m/\r=.osl 1 d.nx.length (HL.ints (jm d.nx.length c))):=by
 obtain ⟨h1,h2,h3,h4,h5⟩:=lD hv
 have ok:=vN hv
 refine HT.of rfl aco (bF rfl) ?_
 unfold adg
 simp only [ay,Nat.reduceAdd,dC]
 refine zF ⟨?_⟩
 rw [<- Nr]
 refine aF [1,3,4,5] (fun k:Nat=>∀j,j<k->MN.cnt (bK d) (iW d) d.nx.length (j+1)≠MN.cnt (bK d) (iW d) d.nx.length j)
  (fun k=>⟨[(1,.pref 0 [] 0),(3,.int .i64 d.nx.length),(4,.ref 1 [] 1 0 d.nx.length),(5,.int .i64 (MN.cnt (bK d) (iW d) d.nx.length k))],[(0,.optr [.int .i64 d.sz,.sl d.nx.length (iT d.nx),.sl d.fn.length (HL.bools d.fn)]),(1,.osl 1 d.nx.length (HL.ints (jm d.nx.length (MN.rnd (bK d) (iW d) d.nx.length k))))],2⟩)
  (fun k=>d.nx.length - MN.cnt (bK d) (iW d) d.nx.length k) 0 (fun j hj=>by omega) rfl ?_
 intro k hk
 have hsm:=fun i (hi:i<d.nx.length)=>JC (bK d) (iW d) (k:=k) hi
 have hup:=MN.cnt_up (nx:=bK d) (fn:=iW d) (n:=d.nx.length) k
 have hle:=MN.cnt_le (nx:=bK d) (fn:=iW d) (n:=d.nx.length) (k+1)
 have hsg:=fun {i j:Nat} (hi:i<d.nx.length) (hj:j<d.nx.length)=>Kr hv (c:=MN.rnd (bK d) (iW d) d.nx.length k) (fun i hi=>by have:=hsm i hi;omega) hi hj
 obtain ⟨hr1,hr2⟩:=Q7 hv (k:=k) fun i hi=>by have:=hsm i hi;omega
 generalize hc:MN.rnd (bK d) (iW d) d.nx.length k=c at hr1 hr2 hsm hsg
 generalize hm:MN.cnt (bK d) (iW d) d.nx.length k=m at hup
 refine zF ⟨?_⟩
 rw [<- Jt (dY d c)]
 refine aF [1,3,4,5,6,7,8] (fun i:Nat=>i<=d.nx.length)
  (fun i=>⟨[(1,.pref 0 [] 0),(3,.int .i64 d.nx.length),(4,.ref 1 [] 1 0 d.nx.length),(5,.int .i64 m),(6,.ref 2 [] 1 0 d.nx.length),(7,.ref 3 [] 1 0 (pz (dY d c) i).length),(8,.int .i64 i)],[(0,.optr [.int .i64 d.sz,.sl d.nx.length (iT d.nx),.sl d.fn.length (HL.bools d.fn)]),(1,.osl 1 d.nx.length (HL.ints (jm d.nx.length c))),(2,.osl 1 d.nx.length (HL.ints (uq (dY d c) d.nx.length i))),(3,.osl 1 (pz (dY d c) i).length (HL.ints (nI (pz (dY d c) i))))],4⟩)
  (fun i=>d.nx.length - i) 0 (by omega) rfl ?_
 intro i hi
 have hfl:=xu (dY d c) i
 have hrl:=WH (dY d c) i
 by_cases hil:i<d.nx.length
 ·have hrlt:=Ld (dY d c) i
  have hno:=YV (f:=dY d c) (i:=i)
  have hat:=fun k=>Z8 (f:=dY d c) (n:=d.nx.length) (i:=i) (k:=k) hil
  have hrin:=KQ (f:=dY d c) (i:=i)
  have hrnew:=Gh (f:=dY d c) (i:=i)
  have hnw:=Vf (q:=dY d c) hil
  have hse:(HL.ints (uq (dY d c) d.nx.length i)).set i (.int .i64 (MN.num (dY d c) d.nx.length i))=HL.ints (uq (dY d c) d.nx.length (i+1)):=by
   rw [<- Ot hil];simp [HL.ints]
  rw [<- hrl] at hnw
  refine zF ⟨?_⟩
  refine aF [1,3,4,5,6,7,8,9] (fun k:Nat=>k<=(pz (dY d c) i).length/\∀q,q<k->dY d c ((pz (dY d c) i).getD q 0)≠dY d c i)
   (fun k=>⟨[(1,.pref 0 [] 0),(3,.int .i64 d.nx.length),(4,.ref 1 [] 1 0 d.nx.length),(5,.int .i64 m),(6,.ref 2 [] 1 0 d.nx.length),(7,.ref 3 [] 1 0 (pz (dY d c) i).length),(8,.int .i64 i),(9,.int .i64 k)],[(0,.optr [.int .i64 d.sz,.sl d.nx.length (iT d.nx),.sl d.fn.length (HL.bools d.fn)]),(1,.osl 1 d.nx.length (HL.ints (jm d.nx.length c))),(2,.osl 1 d.nx.length (HL.ints (uq (dY d c) d.nx.length i))),(3,.osl 1 (pz (dY d c) i).length (HL.ints (nI (pz (dY d c) i))))],4⟩)
   (fun k=>(pz (dY d c) i).length - k) 0 ⟨dS _,fun q hq=>by omega⟩ rfl ?_
  rintro q ⟨hq,hqn⟩
  generalize hRe:pz (dY d c) i=R at hrlt hno hat hrin hrnew hnw hq hqn hrl ⊢
  generalize hR1e:pz (dY d c) (i+1)=R1 at hrin hrnew
  have hwc:win (HL.ints (jm d.nx.length c)) 0 d.nx.length=HL.ints (jm d.nx.length c):=dw _ (by simp [HL.ints,jm])
  by_cases hql:q<R.length
  ·have hx:(HL.ints (nI R)).getD q .dead=.int .i64 (R.getD q 0:Nat):=O1 hql
   have hxn:R.getD q 0<d.nx.length:=by
    have:=hrlt (R.getD q 0) (by rw [bf,bn hql];exact iD hql)
    omega
   have hal:=Vy d hv c (R.getD q 0) i hxn hil
   rw [show (decide (sig (bK d) (iW d) c (R.getD q 0)=sig (bK d) (iW d) c i))=decide (dY d c (R.getD q 0)=dY d c i) from by
    rw [Jz,decide_eq_true_iff,decide_eq_true_iff];exact (hsg hxn hil).symm] at hal
   simp only [dC] at hal
   refine aU ?_
   refine aU ?_
   refine bJ aA aA (fun _ _ r=>r=.bool (decide (dY d c (R.getD q 0)=dY d c i))) ?_
   by_cases he:dY d c (R.getD q 0)=dY d c i
   ·have hatq:=hat q hql he
    rw [hatq.2] at hse
    have hR1:=hrin hatq.1
    subst hR1
    have hde:decide (dY d c (R1.getD q 0)=dY d c i)=true:=decide_eq_true he
    rw [hde] at hal ⊢
    generalize R1.getD q 0=x at hx hal
    repeat (first|refine AB af rfl ?_|refine rD bP ?_|refine bg ?_|refine aU ?_|refine uk (by rfl) (by rfl) DR ?_|refine fF ?_|refine fM (by rfl) ?_|refine fO (by rfl) ?_|refine uC (by rfl) (by rfl) ?_|refine fD ?_|refine qJ (by rfl) ?_|refine og (by rfl) ?_|refine ug (by rfl) bD (by (try simp (disch:=omega) only [go_sem,reduceIte,Nat.reduceEqDiff,Nat.reduceAdd,Nat.reduceMul,hx]);try rfl) az (by (try simp (disch:=omega) only [go_sem,hx]);try rfl) af ?_|refine sQ (by rfl) (by rfl) (by (try simp (disch:=omega) only [go_sem,Int.reduceAdd,Int.reduceSub,Int.reduceMul,hx]);try rfl) ?_|refine uS (by rfl) az (by (try simp (disch:=omega) only [go_sem,hx]);try rfl) ?_|refine uz (by rfl) (by rfl) (by omega) bP ?_|refine Az ?_|refine kK (by rfl) af ?_|refine kH (by rfl) af ?_|refine xK (by rfl) (by rfl) ?_|refine xW (by rfl) (by rfl) ?_|refine uK (by rfl) (by rfl) uA ?_|refine gJ (by rfl) ?_|refine Di (by rfl) (by rfl) ?_|refine yx (by rfl) (by rfl) DR ?_|refine CE (by rfl) af ak dK (by rfl) (by decide) bD ak az (by (try simp (disch:=omega) only [go_sem,hx]);try rfl) ak ?_|refine wU (by rfl) af ak jI uI (by rfl) wF (by rfl) wY (by (try simp (disch:=omega) only [go_sem,reduceIte,Nat.reduceEqDiff,Nat.reduceAdd,Nat.reduceMul,hx]);try rfl) az (by (try simp (disch:=omega) only [go_sem,hx]);try rfl) ak iL ?_|refine vg (by rfl) (by rfl) (by omega) bP ?_|refine nC (by rfl) ?_|refine qN bP ?_|refine jD ?_|refine sK (by rfl) az af ?_|refine oq rfl (by rfl) bP ?_|refine qR (by rfl) az (by (try simp (disch:=omega) only [go_sem,reduceIte,Nat.reduceEqDiff,Nat.reduceAdd,Nat.reduceMul,hx]);try rfl) ?_|refine uX (by rfl) (by rfl) uQ ?_|refine ou (by rfl) ?_|refine pJ (by rfl) bD ak az (by decide) (by (try simp (disch:=omega) only [go_sem,reduceIte,Nat.reduceEqDiff,Nat.reduceAdd,Nat.reduceMul,hx]);try rfl) dK ?_|refine qK bP (by rfl) af rU (by (try simp (disch:=omega) only [go_sem,reduceIte,Nat.reduceEqDiff,Nat.reduceAdd,Nat.reduceMul,hx]);try omega) (by omega) gz ?_|refine pI bP (by rfl) af rU (by (try simp (disch:=omega) only [go_sem,reduceIte,Nat.reduceEqDiff,Nat.reduceAdd,Nat.reduceMul,hx]);try omega) bD (by (try simp (disch:=omega) only [go_sem,reduceIte,Nat.reduceEqDiff,Nat.reduceAdd,Nat.reduceMul,hx]);try rfl) bP (by omega) gz az (by (try simp (disch:=omega) only [go_sem,reduceIte,Nat.reduceEqDiff,Nat.reduceAdd,Nat.reduceMul,hx]);try rfl) ak ?_|refine xI (by rfl) (by rfl) kM ?_|refine xH yA xZ (by simp [jM]) ?_|refine oz bP af ak dK (by rfl) ?_|refine xM (by rfl) (by rfl) (by (try simp (disch:=omega) only [go_sem,Int.reduceAdd,Int.reduceSub,Int.reduceMul,hx]);try rfl) ?_|refine ni (by rfl) ?_|refine yB (by rfl) (by rfl) kM ?_|refine mY af rfl ?_|refine qM bP (by rfl) (by omega) ak ak ?_|refine xG (by rfl) (by rfl) (by (try simp (disch:=omega) only [go_sem,Int.reduceAdd,Int.reduceSub,Int.reduceMul,hx]);try rfl) ?_|refine yc (by rfl) (by rfl) (by (try simp only [go_sem,reduceIte,hx]);try rfl) ?_|refine ve (by rfl) (by rfl) ?_|refine uT (by rfl) (by rfl) ?_|refine mP bP (by rfl) af rU x9 bD ak bP (by omega) gz az (by (try simp (disch:=omega) only [go_sem,reduceIte,Nat.reduceEqDiff,Nat.reduceAdd,Nat.reduceMul,hx]);try rfl) ak (by rfl) ?_|refine ww (by rfl) (by rfl) (by omega) (by (try simp (disch:=omega) only [go_sem,Int.reduceAdd,Int.reduceSub,Int.reduceMul,hx]);try rfl) ?_|refine yD (by rfl) (by rfl) (by omega) (by (try simp (disch:=omega) only [go_sem,Int.reduceAdd,Int.reduceSub,Int.reduceMul,hx]);try rfl) ?_|refine Fj (by rfl) (by rfl) (by (try simp only [go_sem,reduceIte,hx]);try rfl) ?_|refine qX bP aG ak jI (by simp) (by rfl) (by rfl) (by rfl) ?_|refine qV (by rfl) (by rfl) (by rfl) (by omega) ak bP (by (try simp (disch:=omega) only [go_sem,reduceIte,Nat.reduceEqDiff,Nat.reduceAdd,Nat.reduceMul,hx]);try rfl) ?_|refine iY ?_|refine mf (by rfl) (by rfl) dm af ⟨rfl,rfl⟩ (by (try simp (disch:=omega) only [go_sem,reduceIte,Nat.reduceEqDiff,Nat.reduceAdd,Nat.reduceMul,hx]);try rfl) (by rfl) ?_|refine xO (by rfl) (by rfl) (by (try simp (disch:=omega) only [go_sem,Int.reduceAdd,Int.reduceSub,Int.reduceMul,hx]);try rfl) ?_|refine Fq (by rfl) (by rfl) (by (try simp (disch:=omega) only [go_sem,Int.reduceAdd,Int.reduceSub,Int.reduceMul,hx]);try rfl) ?_|refine yj (by rfl) (by rfl) (by (try simp (disch:=omega) only [go_sem,Int.reduceAdd,Int.reduceSub,Int.reduceMul,hx]);try rfl) ?_|refine xQ (by rfl) (by rfl) (by omega) (by (try simp (disch:=omega) only [go_sem,Int.reduceAdd,Int.reduceSub,Int.reduceMul,hx]);try rfl) ?_|refine yu (by rfl) (by rfl) (by omega) (by (try simp (disch:=omega) only [go_sem,Int.reduceAdd,Int.reduceSub,Int.reduceMul,hx]);try rfl) ?_|refine x8 (by rfl) (by rfl) yl (by (try simp (disch:=omega) only [ng,go_sem,reduceIte,hx]);try rfl) ?_|refine qY (by rfl) (by (try simp only [go_sem,reduceIte,hx]);try rfl) ?_|refine wZ (by rfl) (by (try simp (disch:=omega) only [go_sem,Int.reduceAdd,Int.reduceSub,Int.reduceMul,hx]);try rfl) ?_|refine qQ (by rfl) (by (try simp (disch:=omega) only [go_sem,Int.reduceAdd,Int.reduceSub,Int.reduceMul,hx]);try rfl) ?_|refine xN (by rfl) af rU (by (try simp (disch:=omega) only [go_sem,reduceIte,Nat.reduceEqDiff,Nat.reduceAdd,Nat.reduceMul,hx]);try omega) (by (try simp only [go_sem,reduceIte,Nat.reduceEqDiff,Nat.reduceAdd,Nat.reduceMul,hx]);try rfl) (by (try simp (disch:=omega) only [go_sem,reduceIte,Nat.reduceEqDiff,Nat.reduceAdd,Nat.reduceMul,hx]);try rfl) dK (by omega) bD (by (try simp (disch:=omega) only [go_sem,reduceIte,Nat.reduceEqDiff,Nat.reduceAdd,Nat.reduceMul,hx]);try rfl) az (by (try simp (disch:=omega) only [go_sem,reduceIte,Nat.reduceEqDiff,Nat.reduceAdd,Nat.reduceMul,hx]);try rfl) ak ?_|refine yz (by rfl) az af ?_|refine qW (by rfl) az (by (try simp (disch:=omega) only [go_sem,reduceIte,Nat.reduceEqDiff,Nat.reduceAdd,Nat.reduceMul,hx]);try rfl) ?_|refine xJ bP af rfl ?_|refine qP (by rfl) ?_|refine qU (by rfl) (by omega) ?_|refine qL (by rfl) (by omega) ?_|refine mX bP ?_|refine xP (eV rfl) af ⟨rfl,rfl⟩ (by (try simp (disch:=omega) only [go_sem,reduceIte,Nat.reduceEqDiff,Nat.reduceAdd,Nat.reduceMul,hx]);try rfl) (by rfl) ?_|refine yw (by rfl) af (by rfl) (by rfl) ?_|refine jY (by rfl) af af gU (by trivial) gU dm ⟨rfl,rfl⟩ (by (try simp (disch:=omega) only [go_sem,reduceIte,Nat.reduceEqDiff,Nat.reduceAdd,Nat.reduceMul,hx]);try rfl) ak iL ?_|refine mJ (eV rfl) (by (try simp (disch:=omega) only [List.length_map,go_sem,reduceIte,Nat.reduceEqDiff,Nat.reduceAdd,Nat.reduceMul,hx]);try rfl) ?_|refine mV (by rfl) (by rfl) dm (by (try simp (disch:=omega) only [List.length_map,go_sem,reduceIte,Nat.reduceEqDiff,Nat.reduceAdd,Nat.reduceMul,hx]);try rfl) ?_|refine mM (by rfl) ?_|refine mQ (eV rfl) ?_|refine lu (by rfl) (by rfl) dm ?_|refine mZ (by rfl) ?_|refine jP af rfl ?_)
    refine fG aG (zW (zA @fE @hwc)) hal ⟨_,rfl,rfl⟩ ?_
    rintro _ rfl -
    refine zG ⟨?_⟩
    refine fP @hse ⟨?_⟩
    exact aV [1,3,4,5,6,7,8] (i+1) hil (by omega) (by rw [hR1e];rfl)
   ·have hde:decide (dY d c (R.getD q 0)=dY d c i)=false:=decide_eq_false he
    rw [hde] at hal ⊢
    have hqn2:∀t,t<q+1->dY d c (R.getD t 0)≠dY d c i:=fun t ht=>by
     by_cases e:t=q
     ·subst e;exact he
     ·exact hqn t (by omega)
    generalize R.getD q 0=x at hx hal
    repeat (first|refine AB af rfl ?_|refine rD bP ?_|refine bg ?_|refine aU ?_|refine uk (by rfl) (by rfl) DR ?_|refine fF ?_|refine fM (by rfl) ?_|refine fO (by rfl) ?_|refine uC (by rfl) (by rfl) ?_|refine fD ?_|refine qJ (by rfl) ?_|refine og (by rfl) ?_|refine ug (by rfl) bD (by (try simp (disch:=omega) only [go_sem,reduceIte,Nat.reduceEqDiff,Nat.reduceAdd,Nat.reduceMul,hx]);try rfl) az (by (try simp (disch:=omega) only [go_sem,hx]);try rfl) af ?_|refine sQ (by rfl) (by rfl) (by (try simp (disch:=omega) only [go_sem,Int.reduceAdd,Int.reduceSub,Int.reduceMul,hx]);try rfl) ?_|refine uS (by rfl) az (by (try simp (disch:=omega) only [go_sem,hx]);try rfl) ?_|refine uz (by rfl) (by rfl) (by omega) bP ?_|refine Az ?_|refine kK (by rfl) af ?_|refine kH (by rfl) af ?_|refine xK (by rfl) (by rfl) ?_|refine xW (by rfl) (by rfl) ?_|refine uK (by rfl) (by rfl) uA ?_|refine gJ (by rfl) ?_|refine Di (by rfl) (by rfl) ?_|refine yx (by rfl) (by rfl) DR ?_|refine CE (by rfl) af ak dK (by rfl) (by decide) bD ak az (by (try simp (disch:=omega) only [go_sem,hx]);try rfl) ak ?_|refine wU (by rfl) af ak jI uI (by rfl) wF (by rfl) wY (by (try simp (disch:=omega) only [go_sem,reduceIte,Nat.reduceEqDiff,Nat.reduceAdd,Nat.reduceMul,hx]);try rfl) az (by (try simp (disch:=omega) only [go_sem,hx]);try rfl) ak iL ?_|refine vg (by rfl) (by rfl) (by omega) bP ?_|refine nC (by rfl) ?_|refine qN bP ?_|refine jD ?_|refine sK (by rfl) az af ?_|refine oq rfl (by rfl) bP ?_|refine qR (by rfl) az (by (try simp (disch:=omega) only [go_sem,reduceIte,Nat.reduceEqDiff,Nat.reduceAdd,Nat.reduceMul,hx]);try rfl) ?_|refine uX (by rfl) (by rfl) uQ ?_|refine ou (by rfl) ?_|refine pJ (by rfl) bD ak az (by decide) (by (try simp (disch:=omega) only [go_sem,reduceIte,Nat.reduceEqDiff,Nat.reduceAdd,Nat.reduceMul,hx]);try rfl) dK ?_|refine qK bP (by rfl) af rU (by (try simp (disch:=omega) only [go_sem,reduceIte,Nat.reduceEqDiff,Nat.reduceAdd,Nat.reduceMul,hx]);try omega) (by omega) gz ?_|refine pI bP (by rfl) af rU (by (try simp (disch:=omega) only [go_sem,reduceIte,Nat.reduceEqDiff,Nat.reduceAdd,Nat.reduceMul,hx]);try omega) bD (by (try simp (disch:=omega) only [go_sem,reduceIte,Nat.reduceEqDiff,Nat.reduceAdd,Nat.reduceMul,hx]);try rfl) bP (by omega) gz az (by (try simp (disch:=omega) only [go_sem,reduceIte,Nat.reduceEqDiff,Nat.reduceAdd,Nat.reduceMul,hx]);try rfl) ak ?_|refine xI (by rfl) (by rfl) kM ?_|refine xH yA xZ (by simp [jM]) ?_|refine oz bP af ak dK (by rfl) ?_|refine xM (by rfl) (by rfl) (by (try simp (disch:=omega) only [go_sem,Int.reduceAdd,Int.reduceSub,Int.reduceMul,hx]);try rfl) ?_|refine ni (by rfl) ?_|refine yB (by rfl) (by rfl) kM ?_|refine mY af rfl ?_|refine qM bP (by rfl) (by omega) ak ak ?_|refine xG (by rfl) (by rfl) (by (try simp (disch:=omega) only [go_sem,Int.reduceAdd,Int.reduceSub,Int.reduceMul,hx]);try rfl) ?_|refine yc (by rfl) (by rfl) (by (try simp only [go_sem,reduceIte,hx]);try rfl) ?_|refine ve (by rfl) (by rfl) ?_|refine uT (by rfl) (by rfl) ?_|refine mP bP (by rfl) af rU x9 bD ak bP (by omega) gz az (by (try simp (disch:=omega) only [go_sem,reduceIte,Nat.reduceEqDiff,Nat.reduceAdd,Nat.reduceMul,hx]);try rfl) ak (by rfl) ?_|refine ww (by rfl) (by rfl) (by omega) (by (try simp (disch:=omega) only [go_sem,Int.reduceAdd,Int.reduceSub,Int.reduceMul,hx]);try rfl) ?_|refine yD (by rfl) (by rfl) (by omega) (by (try simp (disch:=omega) only [go_sem,Int.reduceAdd,Int.reduceSub,Int.reduceMul,hx]);try rfl) ?_|refine Fj (by rfl) (by rfl) (by (try simp only [go_sem,reduceIte,hx]);try rfl) ?_|refine qX bP aG ak jI (by simp) (by rfl) (by rfl) (by rfl) ?_|refine qV (by rfl) (by rfl) (by rfl) (by omega) ak bP (by (try simp (disch:=omega) only [go_sem,reduceIte,Nat.reduceEqDiff,Nat.reduceAdd,Nat.reduceMul,hx]);try rfl) ?_|refine iY ?_|refine mf (by rfl) (by rfl) dm af ⟨rfl,rfl⟩ (by (try simp (disch:=omega) only [go_sem,reduceIte,Nat.reduceEqDiff,Nat.reduceAdd,Nat.reduceMul,hx]);try rfl) (by rfl) ?_|refine xO (by rfl) (by rfl) (by (try simp (disch:=omega) only [go_sem,Int.reduceAdd,Int.reduceSub,Int.reduceMul,hx]);try rfl) ?_|refine Fq (by rfl) (by rfl) (by (try simp (disch:=omega) only [go_sem,Int.reduceAdd,Int.reduceSub,Int.reduceMul,hx]);try rfl) ?_|refine yj (by rfl) (by rfl) (by (try simp (disch:=omega) only [go_sem,Int.reduceAdd,Int.reduceSub,Int.reduceMul,hx]);try rfl) ?_|refine xQ (by rfl) (by rfl) (by omega) (by (try simp (disch:=omega) only [go_sem,Int.reduceAdd,Int.reduceSub,Int.reduceMul,hx]);try rfl) ?_|refine yu (by rfl) (by rfl) (by omega) (by (try simp (disch:=omega) only [go_sem,Int.reduceAdd,Int.reduceSub,Int.reduceMul,hx]);try rfl) ?_|refine x8 (by rfl) (by rfl) yl (by (try simp (disch:=omega) only [ng,go_sem,reduceIte,hx]);try rfl) ?_|refine qY (by rfl) (by (try simp only [go_sem,reduceIte,hx]);try rfl) ?_|refine wZ (by rfl) (by (try simp (disch:=omega) only [go_sem,Int.reduceAdd,Int.reduceSub,Int.reduceMul,hx]);try rfl) ?_|refine qQ (by rfl) (by (try simp (disch:=omega) only [go_sem,Int.reduceAdd,Int.reduceSub,Int.reduceMul,hx]);try rfl) ?_|refine xN (by rfl) af rU (by (try simp (disch:=omega) only [go_sem,reduceIte,Nat.reduceEqDiff,Nat.reduceAdd,Nat.reduceMul,hx]);try omega) (by (try simp only [go_sem,reduceIte,Nat.reduceEqDiff,Nat.reduceAdd,Nat.reduceMul,hx]);try rfl) (by (try simp (disch:=omega) only [go_sem,reduceIte,Nat.reduceEqDiff,Nat.reduceAdd,Nat.reduceMul,hx]);try rfl) dK (by omega) bD (by (try simp (disch:=omega) only [go_sem,reduceIte,Nat.reduceEqDiff,Nat.reduceAdd,Nat.reduceMul,hx]);try rfl) az (by (try simp (disch:=omega) only [go_sem,reduceIte,Nat.reduceEqDiff,Nat.reduceAdd,Nat.reduceMul,hx]);try rfl) ak ?_|refine yz (by rfl) az af ?_|refine qW (by rfl) az (by (try simp (disch:=omega) only [go_sem,reduceIte,Nat.reduceEqDiff,Nat.reduceAdd,Nat.reduceMul,hx]);try rfl) ?_|refine xJ bP af rfl ?_|refine qP (by rfl) ?_|refine qU (by rfl) (by omega) ?_|refine qL (by rfl) (by omega) ?_|refine mX bP ?_|refine xP (eV rfl) af ⟨rfl,rfl⟩ (by (try simp (disch:=omega) only [go_sem,reduceIte,Nat.reduceEqDiff,Nat.reduceAdd,Nat.reduceMul,hx]);try rfl) (by rfl) ?_|refine yw (by rfl) af (by rfl) (by rfl) ?_|refine jY (by rfl) af af gU (by trivial) gU dm ⟨rfl,rfl⟩ (by (try simp (disch:=omega) only [go_sem,reduceIte,Nat.reduceEqDiff,Nat.reduceAdd,Nat.reduceMul,hx]);try rfl) ak iL ?_|refine mJ (eV rfl) (by (try simp (disch:=omega) only [List.length_map,go_sem,reduceIte,Nat.reduceEqDiff,Nat.reduceAdd,Nat.reduceMul,hx]);try rfl) ?_|refine mV (by rfl) (by rfl) dm (by (try simp (disch:=omega) only [List.length_map,go_sem,reduceIte,Nat.reduceEqDiff,Nat.reduceAdd,Nat.reduceMul,hx]);try rfl) ?_|refine mM (by rfl) ?_|refine mQ (eV rfl) ?_|refine lu (by rfl) (by rfl) dm ?_|refine mZ (by rfl) ?_|refine jP af rfl ?_)
    refine fG aG (zW (zA @fE @hwc)) hal ⟨_,rfl,rfl⟩ ?_
    rintro _ rfl -
    refine zG ⟨?_⟩
    refine zF ⟨?_⟩
    exact aV [1,3,4,5,6,7,8,9] (q+1) ⟨hql,hqn2⟩ (by omega) rfl
  ·obtain rfl:q=R.length:=by omega
   have hnew:=hno hqn
   have hR1:=hrnew hnew
   rw [hnw hnew] at hse
   subst hR1
   have hwl:win (HL.ints (nI R)) 0 R.length=HL.ints (nI R):=dw _ (by simp [HL.ints,nI])
   have hap:=yJ R i
   refine aU ?_
   refine aU ?_
   refine bJ aA aA (fun _ _ r=>r=.bool true) ?_
   refine fP (zA @hwl (zA @hap @hse)) ⟨?_⟩
   exact aV [1,3,4,5,6,7,8] (i+1) hil (by omega) (by rw [hR1e,dQ];rfl)
 ·obtain rfl:i=d.nx.length:=by omega
  have hF:=hr2
  rw [LP,IY hr1]
  rw [<- hrl] at hF
  generalize pz (dY d c) d.nx.length=R at hF ⊢
  by_cases e:MN.cnt (bK d) (iW d) d.nx.length (k+1)=m
  ·have he:((R.length:Int)==(m:Int))=true:=by rw [hF,e];simp
   refine fP @he ⟨?_⟩
   refine ae ?_
   exact ⟨_,_,⟨⟨k,rfl,rfl,by rw [hm];exact e,hk⟩⟩,rfl⟩
  ·have he:((R.length:Int)==(m:Int))=false:=by rw [hF];simp;omega
   refine fP @he ⟨?_⟩
   refine aV [1,3,4,5] (k+1) (fun j hj=>?_) (by omega) (by rw [hF];rfl)
   by_cases ej:j=k
   ·subst ej;rw [hm];exact e
   ·exact hk j (by omega)
end Go.Proofs.Ytlbdmpjnmfmnfaa
