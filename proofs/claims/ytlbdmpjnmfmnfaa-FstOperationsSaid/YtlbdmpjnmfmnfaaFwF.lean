import Derived.Test.YtlbdmpjnmfmnfaaHlF2
import Derived.Test.YtlbdmpjnmfmnfaaFsB
set_option linter.unusedSimpArgs false
set_option linter.unusedVariables false
set_option linter.unnecessarySimpa false
set_option maxHeartbeats 16000000
namespace Go.Proofs.Ytlbdmpjnmfmnfaa
open Go.RowKit Go.HL Go.FS
theorem abv {k:List HI} {rs:List Nat} {Kp:HV->Prop} {x:HCode} [hp:Plain k] {DC0 X1 X2:List HV} {i K m1 m2 j n:Nat} {LB U':List (List Int)} (hU:LB.length=n) (hK:K<n) (hf:(LB.getD K []).length<=200000) (hU':LB.set K (LB.getD K []++[(i:Int)])=U')
  (h:hx Try.prog (.c x::k) (finish rs Kp) ⟨[(1,.ptr DC0 0),(2,.pref 0 [] 0),(3,.pref 1 [] 0),(4,.int .i64 i),(24,.sl m1 X1),(25,.int .i64 m1),(26,.int .i64 i),(31,.sl m2 X2),(32,.int .i64 m2),(33,.int .i64 j)],[(0,.optr [.nils,.nils]),(1,.optr [.osl 1 n (iO U')])],2⟩) :
  hx Try.prog (.c Yp::.b 3::.c x::k) (finish rs Kp) ⟨[(1,.ptr DC0 0),(2,.pref 0 [] 0),(3,.pref 1 [] 0),(4,.int .i64 i),(7,.int .i64 K),(24,.sl m1 X1),(25,.int .i64 m1),(26,.int .i64 i),(31,.sl m2 X2),(32,.int .i64 m2),(33,.int .i64 j)],[(0,.optr [.nils,.nils]),(1,.optr [.osl 1 n (iO LB)])],2⟩:=by
 have hro:=YF LB K (LB.getD K []++[(i:Int)]) .dead (n:=(LB.getD K []).length+1) (by simp)
 rw [hU'] at hro
 have hg:=GV LB (i:=K) (by omega)
 obtain ⟨r,hr⟩:∃r,LB.getD K []=r:=⟨_,rfl⟩
 rw [hr] at hro hg hf
 have hl:=AA LB
 unfold Yp
 refine yN ah ?_
 refine dH (.ref 1 [0] 1 0 n) _ rfl rfl (aZ rfl) rfl ah ?_
 refine dH (.int .i64 K) _ rfl rfl (by trivial) rfl ah ?_
 refine dH (.ref 1 [0] 1 0 n) _ rfl rfl (aZ rfl) rfl ah ?_
 refine dH (.int .i64 K) _ rfl rfl (by trivial) rfl ah ?_
 refine dH (side:=(0:Int)<=K/\(K:Int)<n/\1=1) (.pref 1 [0] K) _ rfl ?_ ⟨by omega,by omega,rfl⟩ rfl ah ?_
 ·show (HV.pref 1 [0] (0+(K:Int).toNat*1),([]:List Upd),(0:Int)<=K/\(K:Int)<n/\1=1)=_
  rw [show 0+(K:Int).toNat*1=K by omega]
 refine dH (side:=K<(iO LB).length) (.ref 1 [0,K] 1 0 r.length) _ rfl ?_ (by omega) rfl ah ?_
 ·show (Go.HL.look 1 [0] K ((iO LB).getD K .dead),([]:List Upd),K<(iO LB).length)=_
  rw [hg];rfl
 refine dH (.int .i64 i) _ rfl rfl (by trivial) rfl ah ?_
 refine xK (.ref 114 [] 1 0 1) [.put 114 (.osl 1 1 [.int .i64 i])] rfl rfl rfl ⟨⟨trivial,trivial⟩,rfl,rfl⟩ rfl rfl ah gY ?_
 refine xK (W:=[2,260,261]) (R:=[2,228]) (side:=(1=1/\0+1*1<=1/\true=true)/\(r.length+1)*8<=140737488355328/\r.length+1<=maxLen/\1=1/\0+r.length*1<=(HL.ints r).length) (.ref 130 [] 1 0 (r.length+1)) [.put 1 (.optr [.osl 1 n ((iO LB).set K .dead)]),.put 130 (.osl 1 (r.length+1) (HL.ints (r++[(i:Int)])))] rfl rfl ?_ ⟨⟨rfl,by omega,rfl⟩,by omega,by unfold maxLen;omega,rfl,by rw [HL.ints_len];omega⟩ rfl rfl ah gY ?_
 ·have hwn:win (HL.ints r) 0 (r.length*1)++[HV.int .i64 i]=HL.ints (r++[(i:Int)]):=by
   rw [qA _ (by omega)];simp [HL.ints]
  have hng:aB (.optr [.osl 1 n (iO LB)]) [0,K]=.osl 1 r.length (HL.ints r):=hg
  refine (JG (L:=fun j=>ax j [(114,HV.osl 1 1 [HV.int .i64 i]),(0,.optr [.nils,.nils]),(1,.optr [.osl 1 n (iO LB)])]) (fr:=130) (bytes:=8) (off:=0) (n:=r.length) (sz2:=1) (id:=1) (p:=[0,K]) (w:=.ref 114 [] 1 0 1) (fl:=true) (sz:=1) (us:=[]) (m:=1) (ws:=[HV.int .i64 i]) (cond:=1=1/\0+1*1<=1/\true=true) rfl hng).trans ?_
  simp only [hwn]
  rfl
 refine dH (side:=(0:Int)<=K/\(K:Int)<n/\1=1) (.pref 1 [0] K) _ rfl ?_ ⟨by omega,by omega,rfl⟩ rfl ah ?_
 ·show (HV.pref 1 [0] (0+(K:Int).toNat*1),([]:List Upd),(0:Int)<=K/\(K:Int)<n/\1=1)=_
  rw [show 0+(K:Int).toNat*1=K by omega]
 refine xK (W:=[260,261,2,3]) (R:=[2,260]) (side:=((0=0/\r.length+1=r.length+1)/\True)/\[HV.osl 1 (r.length+1) (HL.ints (r++[(i:Int)]))].length=1/\0<1/\K+1<=((iO LB).set K .dead).length/\(false=true->aV [HV.osl 1 (r.length+1) (HL.ints (r++[(i:Int)]))]=true)) .dead [.put 130 .dead,.kill 1 1,.put 1 (.optr [.osl 1 n (iO U')])] rfl rfl ?_ ⟨⟨⟨rfl,rfl⟩,trivial⟩,rfl,rO,by rw [List.length_set];omega,fun h=>absurd h (by decide)⟩ rfl rfl ah gY ?_
 ·show (HV.dead,[Upd.put 130 .dead,.kill 1 1,.put 1 (.optr [.osl 1 n (((iO LB).set K .dead).set K (.osl 1 (r.length+1) (HL.ints (r++[(i:Int)]))))])],((0=0/\r.length+1=r.length+1)/\True)/\[HV.osl 1 (r.length+1) (HL.ints (r++[(i:Int)]))].length=1/\0<1/\K+1<=((iO LB).set K .dead).length/\(false=true->aV [HV.osl 1 (r.length+1) (HL.ints (r++[(i:Int)]))]=true))=_
  rw [hro]
 refine MW rfl ?_
 refine BP ?_
 exact aY [1,2,3,4,24,25,26,31,32,33] _ rfl h
theorem aac (d:Dz) (rb lb:List Bool) (hv:okD d=true) (h1:d.nx.length<=100) (hrl:rb.length=d.nx.length) (hll:lb.length=d.nx.length) (hrc:∀i,rb.getD i false=true <-> Rc (allA d) (·.f) (·.t) (·=0) i) (hlc:∀i,lb.getD i false=true <-> Rc (allA d) (·.t) (·.f) (fun j=>d.fn.getD j false=true) i) :
  hx Try.prog [.c XP] (finish [2] (KC [.c 2 true 2] fun r=>r=.agg (fC (GN d)))) ⟨[(1,.ptr [.int .i64 d.sz,.sl d.nx.length (iT d.nx),.sl d.fn.length (HL.bools d.fn)] 0),(2,.pref 0 [] 0),(8,.sl d.nx.length (HL.bools rb)),(9,.sl d.nx.length (HL.bools lb))],[(0,.optr [.nils,.nils])],1⟩:=by
 obtain ⟨d1,d2,d3,d4,d5⟩:=wQ hv
 have hkp:=Xh hrc hlc
 have ho:GN d=(d.fn,(allA d).filter (kpO d)):=by unfold GN;rw [if_pos hv]
 have hle:∀i,i<=d.nx.length->(allT d i).length<=6400:=fun i hi=>by have:=yc hv hi;omega
 have hcl:=JH d.fn (by omega) (by omega)
 have hall:allT d d.nx.length=allA d:=rfl
 generalize kpO d=kp at hkp ho
 simp only [fC]
 refine zF ⟨?_⟩
 refine aF ay aK (hcl) ?_
 rintro _ rfl
 refine zG ⟨?_⟩
 refine zF ⟨?_⟩
 refine aX 65 [1,4] [2,8,9,10,68,69,70] (⟨[(2,.pref 0 [] 0),(8,.sl d.nx.length (HL.bools rb)),(9,.sl d.nx.length (HL.bools lb)),(10,.pref 1 [] 0),(68,.sl d.nx.length (iT d.nx)),(69,.int .i64 d.nx.length),(70,.int .i64 0)],[(0,.optr [.nils,.nils]),(1,.optr [.osl 1 d.fn.length (HL.bools d.fn),.osl 4 0 []])],2⟩:St) rfl rfl ?_
 refine aI [2,8,9,10,68,69,70] (fun i:Nat=>i<=d.nx.length) (fun i=>⟨[(2,.pref 0 [] 0),(8,.sl d.nx.length (HL.bools rb)),(9,.sl d.nx.length (HL.bools lb)),(10,.pref 1 [] 0),(68,.sl d.nx.length (iT d.nx)),(69,.int .i64 d.nx.length),(70,.int .i64 i)],[(0,.optr [.nils,.nils]),(1,.optr [.osl 1 d.fn.length (HL.bools d.fn),.osl 4 ((allT d i).filter kp).length (recs aC ((allT d i).filter kp))])],2⟩) (fun i=>d.nx.length - i) 0 (by omega) rfl ?_
 intro i hi
 have hli:=jc (List.length_filter_le kp _) (hle i hi)
 by_cases hil:i<d.nx.length
 ·obtain ⟨r1,r2⟩:=wF hv hil
  have hst:=zI (d:=d) (i:=i)
  obtain ⟨row,hrow⟩:∃row,d.nx.getD i []=row:=⟨_,rfl⟩
  rw [hrow] at r1 r2 hst
  have hst2:(allT d (i+1)).filter kp=(allT d i).filter kp++(rowA i row row.length).filter kp:=by rw [hst,Ey]
  generalize (allT d i).filter kp=T at hst2 hli ⊢
  refine eH @hrow ⟨?_⟩
  refine aI [2,8,9,10,11,68,69,70,75,76,77] (fun k:Nat=>k<=row.length) (fun k=>⟨[(2,.pref 0 [] 0),(8,.sl d.nx.length (HL.bools rb)),(9,.sl d.nx.length (HL.bools lb)),(10,.pref 1 [] 0),(11,.int .i64 i),(68,.sl d.nx.length (iT d.nx)),(69,.int .i64 d.nx.length),(70,.int .i64 i),(75,.sl row.length (HL.ints row)),(76,.int .i64 row.length),(77,.int .i64 k)],[(0,.optr [.nils,.nils]),(1,.optr [.osl 1 d.fn.length (HL.bools d.fn),.osl 4 (T++(rowA i row k).filter kp).length (recs aC (T++(rowA i row k).filter kp))])],2⟩) (fun k=>row.length - k) 0 (by omega) (by simp [rowA];rfl) ?_
  intro k hk
  have hTl:(T++(rowA i row k).filter kp).length<=6400+k:=by
   have:=List.length_filter_le kp (rowA i row k)
   rw [CP] at this
   rw [bD];omega
  by_cases hkl:k<row.length
  ·have hs2:(rowA i row (k+1)).filter kp=if kp ⟨i,k,k,row.getD k 0⟩=true then (rowA i row k).filter kp++[⟨i,k,k,row.getD k 0⟩] else (rowA i row k).filter kp:=by rw [D7,PL]
   have hkk:=hkp ⟨i,k,k,row.getD k 0⟩
   simp only [Int.toNat_natCast] at hkk
   have rk:=r2 k hkl
   cases c1:rb.getD i false with
   | false =>
    rw [hkk,c1,JB,if_neg (by simp)] at hs2
    refine eH @c1 ⟨?_⟩
    exact aP [2,8,9,10,11,68,69,70,75,76,77] (k+1) hkl (by omega) (by rw [hs2];rfl)
   | true =>
    cases c2:lb.getD (row.getD k 0).toNat false with
    | false =>
     rw [hkk,c1,c2,Bool.and_false,if_neg (by simp)] at hs2
     refine eH (zA @c1 @c2) ⟨?_⟩
     exact aP [2,8,9,10,11,68,69,70,75,76,77] (k+1) hkl (by omega) (by rw [hs2];rfl)
    | true =>
     rw [hkk,c1,c2,Bool.and_self,if_pos rfl] at hs2
     have hs3:T++(rowA i row (k+1)).filter kp=(T++(rowA i row k).filter kp)++[⟨i,k,k,row.getD k 0⟩]:=by rw [hs2,kQ]
     generalize (T++(rowA i row k).filter kp)=Q at hs3 hTl ⊢
     refine eH (zA @c1 @c2) ⟨?_⟩
     refine aP [2,8,9,10,11,68,69,70,75,76,77] (k+1) hkl (by omega) ?_
     rw [hs3]
     simp only [bD,jQ]
     rfl
  ·obtain rfl:k=row.length:=by omega
   rw [<- hst2]
   refine zF ⟨?_⟩
   exact aP [2,8,9,10,68,69,70] (i+1) hil (by omega) rfl
 ·obtain rfl:i=d.nx.length:=by omega
  rw [hall] at hli ⊢
  generalize (allA d).filter kp=Q at hli ho ⊢
  refine aH ?_
  refine au ?_
  refine zQ ⟨?_⟩
  refine aH ?_
  refine bu (by rfl) ?_
  refine iY (by rfl) ?_
  refine aH ?_
  refine aH ?_
  refine au ?_
  refine zQ ⟨?_⟩
  refine bu (by rfl) ?_
  refine jD ?_
  refine az 1 [2,10] ⟨[(2,.pref 0 [] 0),(10,.ptr (stripL [.osl 1 d.fn.length (HL.bools d.fn),.osl 4 Q.length (recs aC Q)]) 0)],[(0,.optr [.nils,.nils])],1⟩ rfl ?_
  rw [fD]
  refine zF ⟨?_⟩
  refine ae ?_
  exact ⟨_,_,rfl,rfl,by rw [ho];rfl⟩
theorem gdI {l:List Int} {s:Nat} (h:s<l.length):l.getD s 0=l[s]:=by rw [bH,bM h];rfl
theorem afb {d:Dz} (hv:okD d=true) {i:Nat}:Rn (fun i=>d.nx.getD i []) [0] i <-> Rc (allA d) (·.f) (·.t) (·=0) i:=by
 constructor
 ·intro h
  induction h with
  | on hj=>simp only [zl009] at hj;subst hj;exact .on rfl
  | @step i j h1 hj ih =>
   by_cases hi:i<d.nx.length
   ·obtain ⟨s,hs,rfl⟩:=BZ hj
    have hm:(⟨i,s,s,(d.nx.getD i []).getD s 0⟩:A)∈allA d:=mem_allT.2 ⟨i,hi,s,hs,rfl⟩
    have:=Rc.step (p:=(·.f)) (q:=(·.t)) (S:=(·=0)) hm (by simpa using ih)
    simp only at this
    rw [gdI hs] at this
    exact this
   ·have:d.nx.getD i []=[]:=by simp [hi]
    rw [this] at hj;cases hj
 ·intro h
  induction h with
  | on hs=>have hs':_=0:=hs;subst hs';exact .on (j:=0) (by simp)
  | @step a ha h1 ih =>
   obtain ⟨i,hi,s,hs,rfl⟩:=mem_allT.1 ha
   simp only [Int.toNat_natCast] at ih ⊢
   refine .step ih ?_
   have e:(d.nx.getD i []).getD s 0=(d.nx.getD i [])[s]:=by rw [bH,bM hs];rfl
   rw [e];exact gy hs
theorem abe (d:Dz) (h1:d.nx.length<=100) (h2:d.fn.length<=100) (h3:∀r∈d.nx,r.length<=1000000):HT Try.prog 43 [.agg (dC d)] (fun r=>r=.agg (fC (GN d))):=by
 refine HT.ofC rfl afB [2] rfl (aZ rfl) ?_
 unfold c43
 have v1:=Vs d (by omega) (by omega) h3
 simp only [aA,Nat.reduceAdd]
 simp only [dC] at v1 ⊢
 by_cases hv:okD d=true
 ·rw [hv] at v1
  obtain ⟨d1,d2,d3,d4,d5⟩:=wQ hv
  have hok:=XH hv h1
  have hle:∀i,i<=d.nx.length->(allT d i).length<=6400:=fun i hi=>by have:=yc hv hi;omega
  have hin:=fun a (ha:a∈allA d)=>RN hv (bg _) ha
  have hnt:(d.nx.length:Int).toNat=d.nx.length:=by omega
  refine zF ⟨?_⟩
  refine aF ay aK (v1) ?_
  rintro _ rfl
  refine zG ⟨?_⟩
  refine eH @hnt ⟨?_⟩
  refine az 0 [1,2,3,24,25,26] ⟨[(1,.ptr (stripL [.int .i64 d.sz,.sl d.nx.length (iT d.nx),.sl d.fn.length (HL.bools d.fn)]) 0),(2,.pref 0 [] 0),(3,.pref 1 [] 0),(24,.sl d.nx.length (iT d.nx)),(25,.int .i64 d.nx.length),(26,.int .i64 0)],[(0,.optr [.nils,.nils]),(1,.optr [.osl 1 d.nx.length (iO (List.replicate d.nx.length []))])],2⟩ rfl ?_
  rw [xZ]
  refine aI [1,2,3,24,25,26] (fun i:Nat=>i<=d.nx.length) (fun i=>⟨[(1,.ptr [.int .i64 d.sz,.sl d.nx.length (iT d.nx),.sl d.fn.length (HL.bools d.fn)] 0),(2,.pref 0 [] 0),(3,.pref 1 [] 0),(24,.sl d.nx.length (iT d.nx)),(25,.int .i64 d.nx.length),(26,.int .i64 i)],[(0,.optr [.nils,.nils]),(1,.optr [.osl 1 d.nx.length (iO (jI (·.t) (·.f) d.nx.length (allT d i)))])],2⟩) (fun i=>d.nx.length - i) 0 (by omega) (by rw [show allT d 0=[] from rfl,UQ];rfl) ?_
  intro i hi
  have hli:=hle i hi
  by_cases hil:i<d.nx.length
  ·obtain ⟨r1,r2⟩:=wF hv hil
   have hst:=zI (d:=d) (i:=i)
   obtain ⟨row,hrow⟩:∃row,d.nx.getD i []=row:=⟨_,rfl⟩
   rw [hrow] at r1 r2 hst
   generalize allT d i=T at hst hli ⊢
   refine eH @hrow ⟨?_⟩
   refine aI [1,2,3,4,24,25,26,31,32,33] (fun k:Nat=>k<=row.length) (fun k=>⟨[(1,.ptr [.int .i64 d.sz,.sl d.nx.length (iT d.nx),.sl d.fn.length (HL.bools d.fn)] 0),(2,.pref 0 [] 0),(3,.pref 1 [] 0),(4,.int .i64 i),(24,.sl d.nx.length (iT d.nx)),(25,.int .i64 d.nx.length),(26,.int .i64 i),(31,.sl row.length (HL.ints row)),(32,.int .i64 row.length),(33,.int .i64 k)],[(0,.optr [.nils,.nils]),(1,.optr [.osl 1 d.nx.length (iO (jI (·.t) (·.f) d.nx.length (T++rowA i row k)))])],2⟩) (fun k=>row.length - k) 0 (by omega) (by simp [rowA];rfl) ?_
   intro k hk
   have hTl:(T++rowA i row k).length<=6400+k:=by rw [bD,CP];omega
   by_cases hkl:k<row.length
   ·have hs2:T++rowA i row (k+1)=(T++rowA i row k)++[⟨i,k,k,row.getD k 0⟩]:=by rw [D7,kQ]
    generalize (T++rowA i row k)=Q at hs2 hTl ⊢
    have rk:=r2 k hkl
    obtain ⟨K,hK⟩:∃K:Nat,row.getD k 0=K:=⟨(row.getD k 0).toNat,by omega⟩
    rw [hK] at rk
    have hr2:=Jc (·.t) (·.f) d.nx.length Q
    have hb2:((jI (·.t) (·.f) d.nx.length Q).getD K []).length<=200000:=jc Jd (by omega)
    have hs3:=Qi (p:=(·.t)) (q:=(·.f)) (n:=d.nx.length) (l:=Q) (a:=⟨i,k,k,row.getD k 0⟩) (j:=K) (by simpa using hK)
    rw [<- hs2] at hs3
    refine aH ?_
    refine au ?_
    refine zQ ⟨?_⟩
    refine aH ?_
    refine jh (by rfl) ?_
    refine jD ?_
    refine aH ?_
    refine jC ?_
    refine aH ?_
    refine au ?_
    refine Na @hK ⟨?_⟩
    refine aY [1,2,3,4,7,24,25,26,31,32,33] ⟨[(1,.ptr [.int .i64 d.sz,.sl d.nx.length (iT d.nx),.sl d.fn.length (HL.bools d.fn)] 0),(2,.pref 0 [] 0),(3,.pref 1 [] 0),(4,.int .i64 i),(7,.int .i64 K),(24,.sl d.nx.length (iT d.nx)),(25,.int .i64 d.nx.length),(26,.int .i64 i),(31,.sl row.length (HL.ints row)),(32,.int .i64 row.length),(33,.int .i64 k)],[(0,.optr [.nils,.nils]),(1,.optr [.osl 1 d.nx.length (iO (jI (·.t) (·.f) d.nx.length Q))])],2⟩ rfl ?_
    refine abv hr2 (by omega) hb2 hs3 ?_
    refine zF ⟨?_⟩
    exact aP [1,2,3,4,24,25,26,31,32,33] (k+1) hkl (by omega) rfl
   ·obtain rfl:k=row.length:=by omega
    rw [<- hst]
    refine zF ⟨?_⟩
    exact aP [1,2,3,24,25,26] (i+1) hil (by omega) rfl
  ·obtain rfl:i=d.nx.length:=by omega
   have hall:allT d d.nx.length=allA d:=rfl
   rw [hall] at hli ⊢
   have hr2:=Jc (·.t) (·.f) d.nx.length (allA d)
   refine aH ?_
   refine au ?_
   refine zQ ⟨?_⟩
   refine aH ?_
   refine bu (by rfl) ?_
   refine iY (by rfl) ?_
   refine az 1 [1,2,3] ⟨[(1,.ptr [.int .i64 d.sz,.sl d.nx.length (iT d.nx),.sl d.fn.length (HL.bools d.fn)] 0),(2,.pref 0 [] 0),(3,.ptr (stripL [.osl 1 d.nx.length (iO (jI (·.t) (·.f) d.nx.length (allA d)))]) 0)],[(0,.optr [.nils,.nils])],1⟩ rfl ?_
   rw [show stripL [.osl 1 d.nx.length (iO (jI (·.t) (·.f) d.nx.length (allA d)))]=[.sl d.nx.length (iT (jI (·.t) (·.f) d.nx.length (allA d)))] by simp only [stripL,HV.strip,Dp]]
   have hin1:∀i,i<d.nx.length->∀j∈d.nx.getD i [],0<=j/\j<d.nx.length:=fun i hi j hj=>by
    obtain ⟨s,hs,rfl⟩:=BZ hj
    have:=(wF hv hi).2 s hs
    rw [gdI hs] at this
    exact this
   have hin2:∀i,i<d.nx.length->∀j∈(jI (·.t) (·.f) d.nx.length (allA d)).getD i [],0<=j/\j<d.nx.length:=fun i hi j hj=>by
    obtain ⟨a,ha,_,rfl⟩:=(DX hi).1 hj
    have:=hin a ha;omega
   have hle1:∀i,i<d.nx.length->(d.nx.getD i []).length<=8192:=fun i hi=>by have:=(wF hv hi).1;omega
   have hle2:∀i,((jI (·.t) (·.f) d.nx.length (allA d)).getD i []).length<=8192:=fun i=>jc Jd (by omega)
   have hw1:=Oy 86 [.int .i64 d.sz,.sl d.nx.length (iT d.nx),.sl d.fn.length (HL.bools d.fn)] d.nx.length 8192 (fun i=>d.nx.getD i []) [0] (by omega) (fun i hi=>hle1 i hi) (by omega) (by simp) hin1 (by simp;omega) (fun i hi=>acb _ i d.nx.length d.sz d.fn.length (HL.bools d.fn) hi rfl (jc (hle1 i hi) (by decide)))
   have hfl:=nJ d.fn d.fn.length
   have hw2:=Oy 87 [.sl d.nx.length (iT (jI (·.t) (·.f) d.nx.length (allA d)))] d.nx.length 8192 (fun i=>(jI (·.t) (·.f) d.nx.length (allA d)).getD i []) (jA d.fn d.fn.length) (by omega) (fun i _=>hle2 i) (by omega) (by omega) hin2 (fun j hj=>by have:=mem_finL.1 hj;have h5:=qY this;exact ⟨this.1,by omega⟩) (fun i hi=>acW _ i d.nx.length hi hr2 (jc (hle2 i) (by decide)))
   have hfin:=zN d.fn (by omega)
   refine zF ⟨?_⟩
   refine yu ay ?_
   refine zF ⟨?_⟩
   refine CE [] [] ay KT zT7 rfl (by decide) (hw1) ?_
   rintro _ outs ⟨rb,rfl,hrl,hrc⟩ hol
   obtain rfl:=iU hol
   refine ⟨_,_,_,_,_,zT,(by decide),MN,?_⟩
   refine zQ ⟨?_⟩
   refine az 81 [1,2,3,8] ⟨[(1,.ptr [.int .i64 d.sz,.sl d.nx.length (iT d.nx),.sl d.fn.length (HL.bools d.fn)] 0),(2,.pref 0 [] 0),(3,.ptr [.sl d.nx.length (iT (jI (·.t) (·.f) d.nx.length (allA d)))] 0),(8,.sl d.nx.length (stripL (win (HL.bools rb) 0 (d.nx.length*1))))],[(0,.optr [.nils,.nils])],1⟩ rfl ?_
   rw [Lh rb hrl]
   refine aH ?_
   refine Vp 7 [1,3] [] ah ah ah (fun _ _ r=>r=.osl 1 (jA d.fn d.fn.length).length (HL.ints (jA d.fn d.fn.length))) (by simp [ax,HV.deep,aO,bJ,zx]) (by simp) ?_
   refine zF ⟨?_⟩
   refine bI ay aK hfin ⟨_,rfl,by simp [HV.deep,jL]⟩ ?_
   rintro _ rfl -
   refine zG ⟨?_⟩
   refine zF ⟨?_⟩
   refine yu ay ?_
   refine zF ⟨?_⟩
   simp only [List.drop_succ_cons,List.drop_zero]
   refine CE [] [] ay KT zT7 rfl (by decide) (hw2) ?_
   rintro _ outs ⟨lb,rfl,hll,hlc⟩ hol
   obtain rfl:=iU hol
   refine ⟨_,_,_,_,_,zT,(by decide),MN,?_⟩
   refine zQ ⟨?_⟩
   refine az 113 [1,2,8,9] ⟨[(1,.ptr [.int .i64 d.sz,.sl d.nx.length (iT d.nx),.sl d.fn.length (HL.bools d.fn)] 0),(2,.pref 0 [] 0),(8,.sl d.nx.length (HL.bools rb)),(9,.sl d.nx.length (stripL (win (HL.bools lb) 0 (d.nx.length*1))))],[(0,.optr [.nils,.nils])],1⟩ rfl ?_
   rw [Lh lb hll]
   have hrc':∀i,rb.getD i false=true <-> Rc (allA d) (·.f) (·.t) (·=0) i:=fun i=>(hrc i).trans (afb hv)
   have hlc':∀i,lb.getD i false=true <-> Rc (allA d) (·.t) (·.f) (fun j=>d.fn.getD j false=true) i:=fun i=>(hlc i).trans (ac8 (fun a ha=>by have:=hin a ha;omega) (fun a ha=>by have:=hin a ha;omega) (fun i=>⟨fun h=>⟨(i:Int),mem_finL.2 ⟨by omega,by simpa using h⟩,by simp⟩,fun ⟨j,hj,h⟩=>by subst h;exact (mem_finL.1 hj).2⟩))
   exact aac d rb lb hv h1 hrl hll hrc' hlc'
 ·have ho:GN d=([],[]):=by unfold GN;rw [if_neg hv]
  rw [show okD d=false by simpa using hv] at v1
  refine zF ⟨?_⟩
  refine aF ay aK (v1) ?_
  rintro _ rfl
  refine zG ⟨?_⟩
  refine zF ⟨?_⟩
  refine aX 16 [1,4] [2] (⟨[(2,.pref 0 [] 0)],[(0,.optr [.osl 1 0 [],.osl 4 0 []])],1⟩:St) rfl rfl ?_
  refine bQ 0 [2] ⟨[(2,.pref 0 [] 0)],[(0,.optr [.sl 0 [],.sl 0 []])],1⟩ rfl rfl ?_
  refine ae ?_
  exact ⟨_,_,rfl,rfl,by rw [ho];rfl⟩
end Go.Proofs.Ytlbdmpjnmfmnfaa
