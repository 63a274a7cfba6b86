import Derived.Test.YtjlidhijnohkbaaGpA
import Derived.Test.YtjlidhijnohkbaaGpR
import Derived.Test.YtjlidhijnohkbaaGpC
import Derived.Test.YtjlidhijnohkbaaHlRw
import Derived.Test.YtjlidhijnohkbaaHlW
set_option linter.unusedSimpArgs false
set_option linter.unusedVariables false
set_option maxHeartbeats 16000000
namespace Go.Proofs.Ytjlidhijnohkbaa
open Go.RowKit Go.HL Go.BF
def kI (e:En):Int:=(e.k:Int)
def JM (R:List (List Nat)) (k s:Nat):Nat:=(R.getD k []).getD s 0
def gd (F:List Bool) (k:Nat):Bool:=F.getD k false
theorem Oq:HT Try.prog 46 [.sl 0 []] (fun r=>r=.tup []):=by
 refine HT.of rfl S9 (gZ rfl) ?_
 unfold c46
 simp only [aB,Nat.reduceAdd]
 refine zF ⟨?_⟩
 refine aQ [0,2,3] (fun _:Unit=>True) (fun _=>⟨[(0,.sl 0 []),(2,.int .i64 0),(3,.int .i64 (-1))],[],0⟩) (fun _=>0) () trivial rfl ?_
 rintro _ _
 refine zF ⟨?_⟩
 refine IB (rs:=[]) aY PV Uy ?_
 rfl
theorem mem_kI {L:List En} {y:Nat}:(y:Int)∈L.map kI <-> y∈L.map (·.k):=by
 simp only [zl023,kI]
 constructor
 ·rintro ⟨e,he,h⟩;exact ⟨e,he,by omega⟩
 ·rintro ⟨e,he,h⟩;exact ⟨e,he,by omega⟩
def RY (R:List (List Nat)) (F:List Bool) (r:HV):Prop:=(∃w:List Nat,Least (JM R) 4 0 (gd F) w/\r=.tup [.osl 1 w.length (HL.ints (nl w)),.bool true])\/(None (JM R) 4 0 (gd F)/\r=.tup [.osl 1 0 [],.bool false])
theorem Hl {n:Nat} {R:List (List Nat)} {F:List Bool} (a:Au n R F):HT Try.prog 40 [.int .i64 0,.int .i64 4,.fn 41 [.ptr [.int .i64 4,.sl n (rT R),.sl n (HL.bools F)] 0],.fn 42 [.ptr [.int .i64 4,.sl n (rT R),.sl n (HL.bools F)] 0]] (RY R F):=by
 have hle:=a.le
 refine HT.of rfl Ug (gZ rfl) ?_
 unfold c40
 simp only [aB,Nat.reduceAdd]
 refine zF ⟨?_⟩
 refine aQ [1,2,3,10,11,12] (fun p:List En×Nat=>p.2<=p.1.length/\BF (JM R) 4 0 p.1 p.2 0/\(∀e∈p.1,e.k<n)/\∀j,j<p.2->gd F (p.1.getD j default).k=false)
  (fun p=>⟨[(1,.int .i64 4),(2,.fn 41 [.ptr [.int .i64 4,.sl n (rT R),.sl n (HL.bools F)] 0]),(3,.fn 42 [.ptr [.int .i64 4,.sl n (rT R),.sl n (HL.bools F)] 0]),(10,.mref 0 []),(11,.ref 1 [] 3 0 p.1.length),(12,.int .i64 (p.2:Nat))],[(0,.omap ⟨.int .i64,none⟩ ((p.1.map kI).map ik) (FB p.1.length)),(1,.osl 3 p.1.length (recs eC p.1))],2⟩) (fun p=>n - p.2) ([⟨0,0,0,[]⟩],0) ⟨gX _,BF.start _ _ _,by simp;exact a.pos,fun j hj=>absurd hj (AU j)⟩ rfl ?_
 rintro ⟨L,i⟩ ⟨hi,hb,hkn,hno⟩
 simp only at hi hb hkn hno ⊢
 have hLn:L.length<=n:=by
  have:=LV n (L.map (·.k)) hb.dist (fun x hx=>by obtain ⟨e,he,rfl⟩:=zl023.1 hx;exact hkn e he)
  simpa using this
 by_cases hil:i<L.length
 ·have e0:=Jb L hil
  have hkk:(L.getD i default).k<n:=hkn _ (by rw [dW,dS hil];exact Bq hil)
  have hg2:=Lc a _ hkk
  cases hg:F.getD (L.getD i default).k false with
  | true =>
   rw [hg] at hg2
   have hle2:=hb.least (good:=gd F) hil hno hg
   generalize (L.getD i default).k=kk at e0 hkk hg2
   refine kE @e0 ⟨?_⟩
   refine ou (by rfl) aY iQ (hg2) ?_
   rintro _ rfl
   refine zG ⟨?_⟩
   refine zF ⟨?_⟩
   refine aQ [11,13,14] (fun q:Nat×List Nat=>q.1<L.length/\q.2.length<=L.length - q.1/\(L.getD q.1 default).w++q.2.reverse=(L.getD i default).w)
    (fun q=>⟨[(11,.ref 0 [] 3 0 L.length),(13,.ref 1 [] 1 0 q.2.length),(14,.int .i64 (q.1:Nat))],[(0,.osl 3 L.length (recs eC L)),(1,.osl 1 q.2.length (HL.ints (nl q.2)))],2⟩) (fun q=>q.1) (i,[]) ⟨hil,by simp,by simp⟩ rfl ?_
   rintro ⟨t,v⟩ ⟨ht,hvl,hw⟩
   simp only at ht hvl hw ⊢
   by_cases h0:t=0
   ·have f1:(recs eC L).getD (t*3+1) .dead=.int .i64 (-1):=by rw [IG L ht,h0,hb.root];rfl
    have hwv:v.reverse=(L.getD i default).w:=by rw [<- hw,h0,hb.root];rfl
    rw [<- hwv] at hle2
    by_cases hv0:v=[]
    ·subst hv0
     refine kE @f1 ⟨?_⟩
     refine bU aY iQ (Oq) ?_
     rintro _ rfl
     refine zG ⟨?_⟩
     refine zF ⟨?_⟩
     refine az ?_
     exact .inl ⟨_,hle2,rfl⟩
    ·have hvp:0<v.length:=List.length_pos_iff.2 hv0
     have hrev:=Ho (nl v) (by rw [bH];exact hvp) (by rw [bH];omega)
     rw [bH] at hrev
     refine kE @f1 ⟨?_⟩
     refine OV (id:=1) (sz:=1) (n:=v.length) 0 aY PV Uy (by rfl) hvp (by omega) hrev ⟨_,rfl⟩ ?_
     rintro _ _ ⟨rfl,rfl⟩
     refine ⟨rfl,_,rfl,_,_,o8,?_⟩
     refine zF ⟨?_⟩
     refine az ?_
     exact .inl ⟨_,hle2,by simp [nl,fJ]⟩
   ·obtain ⟨f,g1,g2,g3,g4,g5,g6⟩:=hb.par t (by omega) ht
    have f1:(recs eC L).getD (t*3+1) .dead=.int .i64 (f:Nat):=by rw [IG L ht,g1];congr 1;omega
    have f2:=Oa L ht
    have hap:HL.ints (nl v)++[.int .i64 ((L.getD t default).sy:Nat)]=HL.ints (nl (v++[(L.getD t default).sy])):=by simp [HL.ints,nl]
    have hwr:win (HL.ints (nl v)) 0 v.length=HL.ints (nl v):=kY _ (by simp [HL.ints,nl])
    have hst:(L.getD f default).w++(v++[(L.getD t default).sy]).reverse=(L.getD i default).w:=by rw [<- hw,g5];simp
    generalize (L.getD t default).sy=y at f2 hap hst
    refine kE (zA @f1 (zA @f2 (zA @hap @hwr))) ⟨?_⟩
    refine bg [11,13,14] (f,v++[y]) ⟨by simp only;omega,by simp only [kL,Ad];omega,hst⟩ dD ?_
    simp only [kL,Ad]
    rfl
  | false =>
   rw [hg] at hg2
   have hno2:∀j,j<i+1->gd F (L.getD j default).k=false:=fun j hj=>by
    by_cases e:j=i
    ·subst e;exact hg
    ·exact hno j (by omega)
   generalize (L.getD i default).k=kk at e0 hkk hg2
   refine kE @e0 ⟨?_⟩
   refine ou (by rfl) aY iQ (hg2) ?_
   rintro _ rfl
   refine zG ⟨?_⟩
   refine zF ⟨?_⟩
   refine aQ [1,2,3,10,11,12,59,60] (fun u:Nat×List En=>u.1<=4/\BF (JM R) 4 0 u.2 i u.1/\(∀e∈u.2,e.k<n)/\i<u.2.length/\∀j,j<i+1->gd F (u.2.getD j default).k=false)
    (fun u=>⟨[(1,.int .i64 4),(2,.fn 41 [.ptr [.int .i64 4,.sl n (rT R),.sl n (HL.bools F)] 0]),(3,.fn 42 [.ptr [.int .i64 4,.sl n (rT R),.sl n (HL.bools F)] 0]),(10,.mref 0 []),(11,.ref 1 [] 3 0 u.2.length),(12,.int .i64 (i:Nat)),(59,.int .i64 4),(60,.int .i64 (u.1:Nat))],[(0,.omap ⟨.int .i64,none⟩ ((u.2.map kI).map ik) (FB u.2.length)),(1,.osl 3 u.2.length (recs eC u.2))],2⟩) (fun u=>4 - u.1) (0,L) ⟨by simp,hb,hkn,hil,hno2⟩ rfl ?_
   rintro ⟨s,Q⟩ ⟨hs,hbq,hkq,hiQ,hnq⟩
   simp only at hs hbq hkq hiQ hnq ⊢
   have hQn:Q.length<=n:=by
    have:=LV n (Q.map (·.k)) hbq.dist (fun x hx=>by obtain ⟨e,he,rfl⟩:=zl023.1 hx;exact hkq e he)
    simpa using this
   by_cases hs4:s<4
   ·have e1:=Jb Q hiQ
    have hkk2:(Q.getD i default).k<n:=hkq _ (by rw [dW,dS hiQ];exact Bq hiQ)
    have hg1:=KU a _ s hkk2 hs4
    have hyn:JM R (Q.getD i default).k s<n:=a.lt _ hkk2 _ (getD_mem _ _ 0 (by rw [a.row _ hkk2];exact hs4))
    have hold:=fun h=>hbq.old (s:=s) h
    have hadd:=fun h=>hbq.add hiQ hs4 h
    change HT _ _ _ (fun r=>r=.int .i64 (JM R (Q.getD i default).k s:Nat)) at hg1
    generalize hyy:JM R (Q.getD i default).k s=y at hg1 hyn hold hadd
    generalize (Q.getD i default).k=k2 at e1 hkk2 hg1
    generalize (Q.getD i default).w=w2 at hadd
    have hmem:AX 0 [] ((Q.map kI).map ik) (FB Q.length) (.bool false) (.int .i64 (y:Nat))=(.bool (decide ((y:Int)∈Q.map kI)),decide ((y:Int)∈Q.map kI)):=by
     have:=KP PN (id:=0) (p:=[]) (y:Int) (Q.map kI)
     rwa [fK] at this
    by_cases hin:y∈Q.map (·.k)
    ·rw [decide_eq_true (mem_kI.2 hin)] at hmem
     refine kE @e1 ⟨?_⟩
     refine ou (by rfl) aY iQ (hg1) ?_
     rintro _ rfl
     refine zG ⟨?_⟩
     refine kE @hmem ⟨?_⟩
     exact bg [1,2,3,10,11,12,59,60] (s+1,Q) ⟨hs4,hold hin,hkq,hiQ,hnq⟩ dD rfl
    ·rw [decide_eq_false (fun h=>hin (mem_kI.1 h))] at hmem
     obtain ⟨E,hE⟩:∃E:En,E=⟨y,i+1,s,w2++[s]⟩:=⟨_,rfl⟩
     have hput:Ac ⟨.int .i64,none⟩ ((Q.map kI).map ik) (FB Q.length) (.int .i64 (y:Nat)) (.bool true)=.omap ⟨.int .i64,none⟩ (((Q++[E]).map kI).map ik) (FB (Q.length+1)):=by
      have:=MB PN (kd:=.int .i64) (y:Int) (Q.map kI)
      rw [fK] at this
      have e2:ins (y:Int) (Q.map kI)=(Q++[E]).map kI:=by unfold ins;rw [if_neg (fun h=>hin (mem_kI.1 h)),hE];simp [kI]
      rw [e2,fK,kL,Ad] at this
      exact this
     have hsn:recs eC Q++[.int .i64 (y:Nat),.int .i64 (i:Nat),.int .i64 (s:Nat)]=recs eC (Q++[E]):=by
      have:=Ph Q E
      rw [hE] at this ⊢
      rw [<- this];simp
     have hall:win (recs eC Q) 0 (Q.length*3)=recs eC Q:=Qn Q rfl
     have hb2:=hadd hin
     rw [<- hE] at hb2
     have hkE:∀e∈Q++[E],e.k<n:=fun e he=>by
      rcases zl001.1 he with he|he
      ·exact hkq e he
      ·rw [zl019.1 he,hE];exact hyn
     have hnE:∀j,j<i+1->gd F ((Q++[E]).getD j default).k=false:=fun j hj=>by
      rw [jc Q E (by omega)];exact hnq j hj
     refine kE @e1 ⟨?_⟩
     refine ou (by rfl) aY iQ (hg1) ?_
     rintro _ rfl
     refine zG ⟨?_⟩
     refine kE (zA @hmem (zA @hput (zA @hsn @hall))) ⟨?_⟩
     refine bg [1,2,3,10,11,12,59,60] (s+1,Q++[E]) ⟨hs4,hb2,hkE,by simp only [kL];omega,hnE⟩ dD ?_
     simp only [kL,Ad]
     rfl
   ·obtain rfl:s=4:=by omega
    refine zF ⟨?_⟩
    exact bg [1,2,3,10,11,12] (Q,i+1) ⟨by simp only;omega,hbq.next,hkq,hnq⟩ dD rfl
 ·have hnone:=hb.none (good:=gd F) (by omega) (fun j hj=>hno j (by omega))
  refine zF ⟨?_⟩
  refine az ?_
  exact .inr ⟨hnone,rfl⟩
end Go.Proofs.Ytjlidhijnohkbaa
