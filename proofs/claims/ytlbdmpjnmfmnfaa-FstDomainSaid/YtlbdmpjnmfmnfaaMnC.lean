import Derived.Test.YtlbdmpjnmfmnfaaMnB
import Derived.Test.YtlbdmpjnmfmnfaaHlW
set_option linter.unusedSimpArgs false
set_option linter.unusedVariables false
set_option maxHeartbeats 16000000
namespace Go.Proofs.Ytlbdmpjnmfmnfaa
open Go.RowKit Go.HL Go.FS Go.MN
def uq (f:Nat->List UInt8) (n i:Nat):List Int:=(List.range n).map fun j=>if j<i then (num f n j:Int) else 0
theorem Xd (f:Nat->List UInt8) (n i:Nat):(uq f n i).length=n:=by simp [uq]
attribute [go_sem] Xd
theorem Ot {f:Nat->List UInt8} {n i:Nat} (h:i<n):(uq f n i).set i (num f n i:Int)=uq f n (i+1):=by
 apply qE
 ·simp [uq]
 ·intro j h1 h2
  simp only [uq,IZ,Jg,Gj]
  by_cases e:i=j
  ·subst e;simp
  ·simp only [e,if_false]
   have:(j<i)=(j<i+1):=by simp only [eq_iff_iff];omega
   simp only [this]
theorem Nr (n:Nat):jm n (fun _=>0)=List.replicate n 0:=by
 apply qE
 ·simp [jm]
 ·intro j h1 h2
  simp [jm]
theorem Jt (f:Nat->List UInt8) (n:Nat):uq f n 0=List.replicate n 0:=by
 apply qE
 ·simp [uq]
 ·intro j h1 h2
  simp [uq]
theorem LP (f:Nat->List UInt8) (n:Nat):uq f n n=jm n (num f n):=by
 apply qE
 ·simp [uq,jm]
 ·intro j h1 h2
  have:j<n:=by simpa [uq] using h1
  simp [uq,jm,this]
theorem IY {n:Nat} {c c':Nat->Nat} (h:∀i,i<n->c i=c' i):jm n c=jm n c':=by
 apply qE
 ·simp [jm]
 ·intro j h1 h2
  have:j<n:=by simpa [jm] using h1
  simp [jm,h j this]
theorem AX {l:List Int} {j:Nat} (h:j<l.length):(HL.ints l).getD j .dead=.int .i64 (l.getD j 0):=by simp [HL.ints,h]
theorem XL {l:List Int} {j:Nat} (h:j<l.length):(l.map Int.toNat).getD j 0=(l.getD j 0).toNat:=by simp [h]
theorem VE {α:Type} {P:Program} {k:List HI} {Q:HE->St->Prop} {G:Prop} (σ:α->St) (Inv:α->Prop) (use:(∀a,Inv a->hx P k Q (σ a))->G) (key:∀a,Inv a->hx P k Q (σ a)):G:=use key
theorem VY {d:Dz} {c:Nat->Nat} {i j:Nat} (h:j<(bK d i).length):qF d c i++uu c ((bK d i).take (j+1))=qF d c i++uu c ((bK d i).take j)++kb (c ((bK d i).getD j 0)):=by
 rw [rG,bn h]
 simp only [Et,uu,IR,List.flatMap_cons,List.flatMap_nil,List.append_nil,tZ,bf,bn h,fV]
theorem OX (d:Dz) (hv:okD d=true):HT Try.prog 107 [.agg (dC d)] (fun r=>∃c m,Cls (bK d) (iW d) d.nx.length c m/\r=.osl 1 d.nx.length (HL.ints (jm d.nx.length c))):=by
 obtain ⟨h1,h2,h3,h4,h5⟩:=lD hv
 have ok:=vN hv
 refine HT.of rfl adV (bF rfl) ?_
 unfold c107
 simp only [ay,Nat.reduceAdd,dC]
 refine zF ⟨?_⟩
 rw [<- Nr]
 refine aF [1,3,4] (fun k:Nat=>∀j,j<k->MN.cnt (bK d) (iW d) d.nx.length (j+1)≠MN.cnt (bK d) (iW d) d.nx.length j)
  (fun k=>⟨[(1,.pref 0 [] 0),(3,.ref 1 [] 1 0 d.nx.length),(4,.int .i64 (MN.cnt (bK d) (iW d) d.nx.length k))],[(0,.optr [.int .i64 d.sz,.sl d.nx.length (iT d.nx),.sl d.fn.length (HL.bools d.fn)]),(1,.osl 1 d.nx.length (HL.ints (jm d.nx.length (MN.rnd (bK d) (iW d) d.nx.length k))))],2⟩)
  (fun k=>d.nx.length - MN.cnt (bK d) (iW d) d.nx.length k) 0 (fun j hj=>by omega) rfl ?_
 intro k hk
 have hsm:=fun i (hi:i<d.nx.length)=>JC (bK d) (iW d) (k:=k) hi
 have hup:=MN.cnt_up (nx:=bK d) (fn:=iW d) (n:=d.nx.length) k
 have hle:=MN.cnt_le (nx:=bK d) (fn:=iW d) (n:=d.nx.length) (k+1)
 obtain ⟨hr1,hr2⟩:=Q7 hv (k:=k) fun i hi=>by have:=hsm i hi;omega
 generalize hc:MN.rnd (bK d) (iW d) d.nx.length k=c at hr1 hr2 hsm
 generalize hm:MN.cnt (bK d) (iW d) d.nx.length k=m at hup
 refine zF ⟨?_⟩
 rw [<- Jt (dY d c)]
 refine aF [1,3,4,5,6,23,24,25] (fun i:Nat=>i<=d.nx.length)
  (fun i=>⟨[(1,.pref 0 [] 0),(3,.ref 1 [] 1 0 d.nx.length),(4,.int .i64 m),(5,.mref 2 []),(6,.ref 3 [] 1 0 d.nx.length),(23,.sl d.nx.length (iT d.nx)),(24,.int .i64 d.nx.length),(25,.int .i64 i)],[(0,.optr [.int .i64 d.sz,.sl d.nx.length (iT d.nx),.sl d.fn.length (HL.bools d.fn)]),(1,.osl 1 d.nx.length (HL.ints (jm d.nx.length c))),(2,.omap ⟨.str,none⟩ ((firsts (dY d c) i).map vW) (lU (firsts (dY d c) i).length)),(3,.osl 1 d.nx.length (HL.ints (uq (dY d c) d.nx.length i)))],4⟩)
  (fun i=>d.nx.length - i) 0 (by omega) rfl ?_
 intro i hi
 by_cases hil:i<d.nx.length
 ·have hci:(HL.ints (jm d.nx.length c)).getD i .dead=.int .i64 (c i):=by simp [HL.ints,jm,hil]
  have hrow:=yK d.nx hil
  have hfi:(HL.bools d.fn).getD i .dead=.bool (iW d i):=by
   have:i<d.fn.length:=by omega
   simp [HL.bools,iW,this]
  have hrl:=mO hv hil
  have hnl:bK d i=(d.nx.getD i []).map Int.toNat:=rfl
  generalize hre:d.nx.getD i []=row at hrow hrl hnl
  refine fP (zA @hci @hrow) ⟨?_⟩
  refine zY [] [] aG Aw OM rfl (by decide) (Yy (c i:Int)) ?_
  rintro _ _ rfl -
  refine ⟨_,_,_,_,_,IB,(by decide),DI,?_⟩
  refine zQ ⟨?_⟩
  apply VE (P:=Try.prog) (fun b:List Int=>(⟨[(1,.pref 0 [] 0),(3,.ref 1 [] 1 0 d.nx.length),(4,.int .i64 m),(5,.mref 2 []),(6,.ref 3 [] 1 0 d.nx.length),(7,.int .i64 i),(8,.sl row.length (HL.ints row)),(9,.ref 4 [] 1 0 b.length),(23,.sl d.nx.length (iT d.nx)),(24,.int .i64 d.nx.length),(25,.int .i64 i)],[(0,.optr [.int .i64 d.sz,.sl d.nx.length (iT d.nx),.sl d.fn.length (HL.bools d.fn)]),(1,.osl 1 d.nx.length (HL.ints (jm d.nx.length c))),(2,.omap ⟨.str,none⟩ ((firsts (dY d c) i).map vW) (lU (firsts (dY d c) i).length)),(3,.osl 1 d.nx.length (HL.ints (uq (dY d c) d.nx.length i))),(4,.osl 1 b.length (by8 b))],5⟩:St)) (fun b=>b=qF d c i)
  ·intro key
   refine aU ?_
   refine aU ?_
   refine bg ?_
   refine zQx @hfi ⟨?_⟩
   unfold qF at key
   cases hf:iW d i with
   | true =>
    rw [hf] at key
    refine fM (by rfl) ?_
    refine bg ?_
    have hw:=zl (kb (c i)) 3 rfl
    have happ:by8 (kb (c i))++[.int .u8 1]=by8 (kb (c i)++[1]):=by simp [by8]
    refine zQx (zA @hw @happ) ⟨?_⟩
    exact bV [1,3,4,5,6,7,8,9,23,24,25] _ rfl (key (kb (c i)++[1]) rfl)
   | false =>
    rw [hf] at key
    refine fO (by rfl) ?_
    refine fF ?_
    exact bV [1,3,4,5,6,7,8,9,23,24,25] _ rfl (key (kb (c i)) rfl)
  ·intro b hb
   have hb4:b.length<=4:=by rw [hb,zX];split<;>omega
   refine zF ⟨?_⟩
   subst hb
   refine aF [1,3,4,5,6,7,8,9,23,24,25,43,44,45] (fun j:Nat=>j<=row.length)
    (fun j=>⟨[(1,.pref 0 [] 0),(3,.ref 1 [] 1 0 d.nx.length),(4,.int .i64 m),(5,.mref 2 []),(6,.ref 3 [] 1 0 d.nx.length),(7,.int .i64 i),(8,.sl row.length (HL.ints row)),(9,.ref 4 [] 1 0 (qF d c i++uu c ((bK d i).take j)).length),(23,.sl d.nx.length (iT d.nx)),(24,.int .i64 d.nx.length),(25,.int .i64 i),(43,.sl row.length (HL.ints row)),(44,.int .i64 row.length),(45,.int .i64 j)],[(0,.optr [.int .i64 d.sz,.sl d.nx.length (iT d.nx),.sl d.fn.length (HL.bools d.fn)]),(1,.osl 1 d.nx.length (HL.ints (jm d.nx.length c))),(2,.omap ⟨.str,none⟩ ((firsts (dY d c) i).map vW) (lU (firsts (dY d c) i).length)),(3,.osl 1 d.nx.length (HL.ints (uq (dY d c) d.nx.length i))),(4,.osl 1 (qF d c i++uu c ((bK d i).take j)).length (by8 (qF d c i++uu c ((bK d i).take j))))],5⟩)
    (fun j=>row.length - j) 0 (by omega) (by simp only [List.take_zero,uu,List.flatMap_nil,List.append_nil];rfl) ?_
   intro j hj
   by_cases hjl:j<row.length
   ·have hst:=VY (d:=d) (c:=c) (i:=i) (j:=j) (by rw [hnl];simpa using hjl)
    obtain ⟨e1,e2⟩:=hrl.2 j hjl
    have hx:(HL.ints row).getD j .dead=.int .i64 (row.getD j 0):=by simp [HL.ints,hjl]
    have hnx:(bK d i).getD j 0=(row.getD j 0).toNat:=by rw [hnl];simp [hjl]
    have hcj:(HL.ints (jm d.nx.length c)).getD (row.getD j 0).toNat .dead=.int .i64 (c ((bK d i).getD j 0)):=by
     rw [hnx];exact U7 c (by omega)
    have hbl:(qF d c i++uu c ((bK d i).take j)).length<=4+3*row.length:=by
     have:(bK d i).length=row.length:=by rw [hnl];simp
     rw [dQ,tN,eu]
     omega
    generalize hbe:qF d c i++uu c ((bK d i).take j)=b at hst hbl ⊢
    generalize row.getD j 0=v at hx hcj e1 e2
    repeat (first|refine AB af rfl ?_|refine rD bP ?_|refine bg ?_|refine aU ?_|refine uk (by rfl) (by rfl) DR ?_|refine fF ?_|refine fM (by rfl) ?_|refine fO (by rfl) ?_|refine uC (by rfl) (by rfl) ?_|refine fD ?_|refine qJ (by rfl) ?_|refine og (by rfl) ?_|refine ug (by rfl) bD (by (try simp (disch:=omega) only [go_sem,reduceIte,Nat.reduceEqDiff,Nat.reduceAdd,Nat.reduceMul,hx,hcj]);try rfl) az (by (try simp (disch:=omega) only [go_sem,hx,hcj]);try rfl) af ?_|refine sQ (by rfl) (by rfl) (by (try simp (disch:=omega) only [go_sem,Int.reduceAdd,Int.reduceSub,Int.reduceMul,hx,hcj]);try rfl) ?_|refine uS (by rfl) az (by (try simp (disch:=omega) only [go_sem,hx,hcj]);try rfl) ?_|refine uz (by rfl) (by rfl) (by omega) bP ?_|refine Az ?_|refine kK (by rfl) af ?_|refine kH (by rfl) af ?_|refine xK (by rfl) (by rfl) ?_|refine xW (by rfl) (by rfl) ?_|refine uK (by rfl) (by rfl) uA ?_|refine gJ (by rfl) ?_|refine Di (by rfl) (by rfl) ?_|refine yx (by rfl) (by rfl) DR ?_|refine CE (by rfl) af ak dK (by rfl) (by decide) bD ak az (by (try simp (disch:=omega) only [go_sem,hx,hcj]);try rfl) ak ?_|refine wU (by rfl) af ak jI uI (by rfl) wF (by rfl) wY (by (try simp (disch:=omega) only [go_sem,reduceIte,Nat.reduceEqDiff,Nat.reduceAdd,Nat.reduceMul,hx,hcj]);try rfl) az (by (try simp (disch:=omega) only [go_sem,hx,hcj]);try rfl) ak iL ?_|refine vg (by rfl) (by rfl) (by omega) bP ?_|refine nC (by rfl) ?_|refine qN bP ?_|refine jD ?_|refine sK (by rfl) az af ?_|refine oq rfl (by rfl) bP ?_|refine qR (by rfl) az (by (try simp (disch:=omega) only [go_sem,reduceIte,Nat.reduceEqDiff,Nat.reduceAdd,Nat.reduceMul,hx,hcj]);try rfl) ?_|refine uX (by rfl) (by rfl) uQ ?_|refine ou (by rfl) ?_|refine pJ (by rfl) bD ak az (by decide) (by (try simp (disch:=omega) only [go_sem,reduceIte,Nat.reduceEqDiff,Nat.reduceAdd,Nat.reduceMul,hx,hcj]);try rfl) dK ?_|refine qK bP (by rfl) af rU (by (try simp (disch:=omega) only [go_sem,reduceIte,Nat.reduceEqDiff,Nat.reduceAdd,Nat.reduceMul,hx,hcj]);try omega) (by omega) gz ?_|refine pI bP (by rfl) af rU (by (try simp (disch:=omega) only [go_sem,reduceIte,Nat.reduceEqDiff,Nat.reduceAdd,Nat.reduceMul,hx,hcj]);try omega) bD (by (try simp (disch:=omega) only [go_sem,reduceIte,Nat.reduceEqDiff,Nat.reduceAdd,Nat.reduceMul,hx,hcj]);try rfl) bP (by omega) gz az (by (try simp (disch:=omega) only [go_sem,reduceIte,Nat.reduceEqDiff,Nat.reduceAdd,Nat.reduceMul,hx,hcj]);try rfl) ak ?_|refine xI (by rfl) (by rfl) kM ?_|refine xH yA xZ (by simp [jM]) ?_|refine oz bP af ak dK (by rfl) ?_|refine xM (by rfl) (by rfl) (by (try simp (disch:=omega) only [go_sem,Int.reduceAdd,Int.reduceSub,Int.reduceMul,hx,hcj]);try rfl) ?_|refine ni (by rfl) ?_|refine yB (by rfl) (by rfl) kM ?_|refine mY af rfl ?_|refine qM bP (by rfl) (by omega) ak ak ?_|refine xG (by rfl) (by rfl) (by (try simp (disch:=omega) only [go_sem,Int.reduceAdd,Int.reduceSub,Int.reduceMul,hx,hcj]);try rfl) ?_|refine yc (by rfl) (by rfl) (by (try simp only [go_sem,reduceIte,hx,hcj]);try rfl) ?_|refine ve (by rfl) (by rfl) ?_|refine uT (by rfl) (by rfl) ?_|refine mP bP (by rfl) af rU x9 bD ak bP (by omega) gz az (by (try simp (disch:=omega) only [go_sem,reduceIte,Nat.reduceEqDiff,Nat.reduceAdd,Nat.reduceMul,hx,hcj]);try rfl) ak (by rfl) ?_|refine ww (by rfl) (by rfl) (by omega) (by (try simp (disch:=omega) only [go_sem,Int.reduceAdd,Int.reduceSub,Int.reduceMul,hx,hcj]);try rfl) ?_|refine yD (by rfl) (by rfl) (by omega) (by (try simp (disch:=omega) only [go_sem,Int.reduceAdd,Int.reduceSub,Int.reduceMul,hx,hcj]);try rfl) ?_|refine Fj (by rfl) (by rfl) (by (try simp only [go_sem,reduceIte,hx,hcj]);try rfl) ?_|refine qX bP aG ak jI (by simp) (by rfl) (by rfl) (by rfl) ?_|refine qV (by rfl) (by rfl) (by rfl) (by omega) ak bP (by (try simp (disch:=omega) only [go_sem,reduceIte,Nat.reduceEqDiff,Nat.reduceAdd,Nat.reduceMul,hx,hcj]);try rfl) ?_|refine iY ?_|refine mf (by rfl) (by rfl) dm af ⟨rfl,rfl⟩ (by (try simp (disch:=omega) only [go_sem,reduceIte,Nat.reduceEqDiff,Nat.reduceAdd,Nat.reduceMul,hx,hcj]);try rfl) (by rfl) ?_|refine xO (by rfl) (by rfl) (by (try simp (disch:=omega) only [go_sem,Int.reduceAdd,Int.reduceSub,Int.reduceMul,hx,hcj]);try rfl) ?_|refine Fq (by rfl) (by rfl) (by (try simp (disch:=omega) only [go_sem,Int.reduceAdd,Int.reduceSub,Int.reduceMul,hx,hcj]);try rfl) ?_|refine yj (by rfl) (by rfl) (by (try simp (disch:=omega) only [go_sem,Int.reduceAdd,Int.reduceSub,Int.reduceMul,hx,hcj]);try rfl) ?_|refine xQ (by rfl) (by rfl) (by omega) (by (try simp (disch:=omega) only [go_sem,Int.reduceAdd,Int.reduceSub,Int.reduceMul,hx,hcj]);try rfl) ?_|refine yu (by rfl) (by rfl) (by omega) (by (try simp (disch:=omega) only [go_sem,Int.reduceAdd,Int.reduceSub,Int.reduceMul,hx,hcj]);try rfl) ?_|refine x8 (by rfl) (by rfl) yl (by (try simp (disch:=omega) only [ng,go_sem,reduceIte,hx,hcj]);try rfl) ?_|refine qY (by rfl) (by (try simp only [go_sem,reduceIte,hx,hcj]);try rfl) ?_|refine wZ (by rfl) (by (try simp (disch:=omega) only [go_sem,Int.reduceAdd,Int.reduceSub,Int.reduceMul,hx,hcj]);try rfl) ?_|refine qQ (by rfl) (by (try simp (disch:=omega) only [go_sem,Int.reduceAdd,Int.reduceSub,Int.reduceMul,hx,hcj]);try rfl) ?_|refine xN (by rfl) af rU (by (try simp (disch:=omega) only [go_sem,reduceIte,Nat.reduceEqDiff,Nat.reduceAdd,Nat.reduceMul,hx,hcj]);try omega) (by (try simp only [go_sem,reduceIte,Nat.reduceEqDiff,Nat.reduceAdd,Nat.reduceMul,hx,hcj]);try rfl) (by (try simp (disch:=omega) only [go_sem,reduceIte,Nat.reduceEqDiff,Nat.reduceAdd,Nat.reduceMul,hx,hcj]);try rfl) dK (by omega) bD (by (try simp (disch:=omega) only [go_sem,reduceIte,Nat.reduceEqDiff,Nat.reduceAdd,Nat.reduceMul,hx,hcj]);try rfl) az (by (try simp (disch:=omega) only [go_sem,reduceIte,Nat.reduceEqDiff,Nat.reduceAdd,Nat.reduceMul,hx,hcj]);try rfl) ak ?_|refine yz (by rfl) az af ?_|refine qW (by rfl) az (by (try simp (disch:=omega) only [go_sem,reduceIte,Nat.reduceEqDiff,Nat.reduceAdd,Nat.reduceMul,hx,hcj]);try rfl) ?_|refine xJ bP af rfl ?_|refine qP (by rfl) ?_|refine qU (by rfl) (by omega) ?_|refine qL (by rfl) (by omega) ?_|refine mX bP ?_|refine xP (eV rfl) af ⟨rfl,rfl⟩ (by (try simp (disch:=omega) only [go_sem,reduceIte,Nat.reduceEqDiff,Nat.reduceAdd,Nat.reduceMul,hx,hcj]);try rfl) (by rfl) ?_|refine yw (by rfl) af (by rfl) (by rfl) ?_|refine jY (by rfl) af af gU (by trivial) gU dm ⟨rfl,rfl⟩ (by (try simp (disch:=omega) only [go_sem,reduceIte,Nat.reduceEqDiff,Nat.reduceAdd,Nat.reduceMul,hx,hcj]);try rfl) ak iL ?_|refine mJ (eV rfl) (by (try simp (disch:=omega) only [List.length_map,go_sem,reduceIte,Nat.reduceEqDiff,Nat.reduceAdd,Nat.reduceMul,hx,hcj]);try rfl) ?_|refine mV (by rfl) (by rfl) dm (by (try simp (disch:=omega) only [List.length_map,go_sem,reduceIte,Nat.reduceEqDiff,Nat.reduceAdd,Nat.reduceMul,hx,hcj]);try rfl) ?_|refine mM (by rfl) ?_|refine mQ (eV rfl) ?_|refine lu (by rfl) (by rfl) dm ?_|refine mZ (by rfl) ?_|refine jP af rfl ?_)
    refine zY [] [] aG Aw OM rfl (by decide) (abM b (c ((bK d i).getD j 0)) (by omega)) ?_
    rintro _ _ rfl -
    rw [<- hst]
    refine ⟨_,_,_,_,_,IB,(by decide),DI,?_⟩
    refine zF ⟨?_⟩
    exact aV [1,3,4,5,6,7,8,9,23,24,25,43,44,45] (j+1) hjl (by omega) rfl
   ·obtain rfl:j=row.length:=by omega
    have hke:qF d c i++uu c ((bK d i).take row.length)=GH d c i:=by
     rw [kC (by rw [hnl];simp)];rfl
    rw [hke]
    have hbl:(GH d c i).length<=4+3*row.length:=by
     have:(bK d i).length=row.length:=by rw [hnl];simp
     rw [GH,dQ,tN,this];omega
    have hw:=zl (GH d c i) (GH d c i).length rfl
    refine zF ⟨?_⟩
    refine wE (by rfl) (by rfl) (by rfl) (by rw [hw];exact sF _) rfl (by rw [xq];omega) ?_
    rw [Bh,show Ob (GH d c i)=dY d c i from rfl]
    have hse:(HL.ints (uq (dY d c) d.nx.length i)).set i (.int .i64 (MN.num (dY d c) d.nx.length i))=HL.ints (uq (dY d c) d.nx.length (i+1)):=by
     rw [<- Ot hil];simp [HL.ints]
    by_cases hin:dY d c i∈firsts (dY d c) i
    ·have hf1:=iK (dY d c) hin
     refine mf (by rfl) (by rfl) dm af ⟨rfl,rfl⟩ (abZ rM hil _ _ _ hin) (by rfl) ?_
     refine fP @hse ⟨?_⟩
     refine aV [1,3,4,5,6,23,24,25] (i+1) hil (by omega) ?_
     rw [hf1]
     rfl
    ·have hf1:=iP (dY d c) hin
     have hfl:=xu (dY d c) i
     have hnn:=Vf hil hin
     rw [hnn] at hse
     refine mf (by rfl) (by rfl) dm af ⟨rfl,rfl⟩ (VL rM _ _ _ hin) (by rfl) ?_
     refine zF ⟨?_⟩
     refine wE (by rfl) (by rfl) (by rfl) (by rw [hw];exact sF _) rfl (by rw [xq];omega) ?_
     rw [Bh,show Ob (GH d c i)=dY d c i from rfl]
     refine zK ⟨?_⟩
     refine jY (by rfl) af af gU (by trivial) gU (by rfl) ⟨rfl,rfl⟩ (PP rM rfl hin) (by rfl) iL ?_
     rw [<- hf1]
     refine fP @hse ⟨?_⟩
     refine aV [1,3,4,5,6,23,24,25] (i+1) hil (by omega) rfl
 ·obtain rfl:i=d.nx.length:=by omega
  have hF:=hr2
  rw [LP,IY hr1]
  generalize firsts (dY d c) d.nx.length=F at hF ⊢
  have hmm:((F.map vW).length:Int)=(MN.cnt (bK d) (iW d) d.nx.length (k+1):Nat):=by rw [List.length_map,hF]
  by_cases e:MN.cnt (bK d) (iW d) d.nx.length (k+1)=m
  ·have he:((F.length:Int)==(m:Int))=true:=by rw [hF,e];simp
   refine fP @he ⟨?_⟩
   refine ae ?_
   exact ⟨_,_,⟨⟨k,rfl,rfl,by rw [hm];exact e,hk⟩⟩,rfl⟩
  ·have he:((F.length:Int)==(m:Int))=false:=by rw [hF];simp;omega
   refine fP @he ⟨?_⟩
   refine aV [1,3,4] (k+1) (fun j hj=>?_) (by omega) (by rw [hF];rfl)
   by_cases ej:j=k
   ·subst ej;rw [hm];exact e
   ·exact hk j (by omega)
end Go.Proofs.Ytlbdmpjnmfmnfaa
