import Derived.Test.YtlbdmpjnmfmnfaaFt2
import Derived.Test.YtlbdmpjnmfmnfaaFwD
import Derived.Test.YtlbdmpjnmfmnfaaHlFi
import Derived.Test.YtlbdmpjnmfmnfaaR01
import Derived.Test.YtlbdmpjnmfmnfaaHlW
set_option linter.unusedSimpArgs false
set_option linter.unusedVariables false
set_option maxHeartbeats 8000000
section
namespace Go.Proofs.Ytlbdmpjnmfmnfaa
open Go.RowKit Go.HL Go.FS
def idx (n:Nat):List HV:=(List.range n).map fun i:Nat=>.int .i64 i
theorem LX (n:Nat):bC (idx n)=true:=by simp [idx,bC,fH]
theorem Vk (n:Nat):idx n++[.int .i64 n]=idx (n+1):=by simp [idx,JE]
theorem Lr {n j:Nat} (h:j<n):(idx n).getD j .dead=.int .i64 j:=by simp [idx,h]
abbrev YX (l:List Nd):HV:=.omap ⟨.ints 2,none⟩ (l.map pk) (idx l.length)
theorem Ah {l:List Nd} {p q:Int} (z:HV) (id:Nat) (pa:List Nat) (h:(p,q)∈l):o6 id pa (l.map pk) (idx l.length) z (.agg [.int .i64 p,.int .i64 q])=(.int .i64 (ixN l (p,q)),true):=by
 rw [tq (by simp [idx]) (LX _),show HV.agg [.int .i64 p,.int .i64 q]=pk (p,q) from rfl]
 unfold Fg
 rw [jU IX,if_pos h]
 exact Prod.ext (Lr (WY h)) rfl
theorem vM {l:List Nd} {p q:Int} (z:HV) (id:Nat) (pa:List Nat) (h:(p,q) ∉ l):o6 id pa (l.map pk) (idx l.length) z (.agg [.int .i64 p,.int .i64 q])=(z,false):=by
 rw [tq (by simp [idx]) (LX _),show HV.agg [.int .i64 p,.int .i64 q]=pk (p,q) from rfl]
 unfold Fg
 rw [jU IX,if_neg h]
theorem pY {l:List Nd} {p q:Int} {n:Nat} (hn:n=l.length) (h:(p,q) ∉ l):zM ⟨.ints 2,none⟩ (l.map pk) (idx l.length) (.agg [.int .i64 p,.int .i64 q]) (.int .i64 n)=.omap ⟨.ints 2,none⟩ ((l++[(p,q)]).map pk) (idx (l++[(p,q)]).length):=by
 subst hn
 rw [show HV.agg [.int .i64 p,.int .i64 q]=pk (p,q) from rfl,Ho IX _ _ _ _ h,Vk]
 simp
abbrev lN (l:List Nd):HV:=.optr [YX l]
abbrev lV (l:List Nd):HV:=.optr [.osl 2 l.length (recs pC l)]
abbrev kS (F:List Bool) (R:List A):HV:=.optr [.osl 1 F.length (HL.bools F),.osl 4 R.length (recs aC R)]
theorem XZ {L:Lk} {fr id:Nat} {path:List Nat} {m:MK} {ks cs:List HV} {kk:KK} {ok b:Bool} {zz kx w:HV} (hn:ax (L id) path=.omap m ks cs) (hm:o6 id path ks cs zz kx=(w,b)):ah L fr (.mlook ok kk zz (.mref id path) kx)=(okV ok w b,[],m.kind=kk/\dB kk kx=true):=by
 unfold o6 at hm
 cases hf:dN kx ks<;>rw [hf] at hm<;>simp only [jg] at hm<;>obtain ⟨rfl,rfl⟩:=hm<;>simp only [ah,hn,hf]
theorem step_end {Kp:HV->Prop} (i a b p q:Int) (l:List Nd) (F:List Bool) (R:List A) (j:Nat) (hR:R.length<=100000000) (hg:∀z id pa,o6 id pa (l.map pk) (idx l.length) z (.agg [.int .i64 p,.int .i64 q])=(.int .i64 j,true))
  (h:Kp (bG [lN l,lV l,kS F (R++[⟨i,a,b,j⟩])])) :
  hx Try.prog [.c XY] (finish [4,5,6] Kp) ⟨[(0,.int .i64 i),(1,.int .i64 a),(2,.int .i64 b),(4,.pref 0 [] 0),(5,.pref 1 [] 0),(6,.pref 2 [] 0),(10,.pref 3 [] 0)],[(0,lN l),(1,lV l),(2,kS F R),(3,.optr [.int .i64 p,.int .i64 q])],4⟩:=by
 unfold XY
 unfold lN lV kS YX at h ⊢
 refine Nb aA ?_
 refine mD (.pref 2 [] 1) _ rfl rfl (by trivial) rfl aA ?_
 refine mD (.ref 2 [1] 4 0 R.length) _ rfl rfl (bF rfl) rfl aA ?_
 refine mD (.int .i64 i) _ rfl rfl (by trivial) rfl aA ?_
 refine mD (.int .i64 a) _ rfl rfl (by trivial) rfl aA ?_
 refine mD (.int .i64 b) _ rfl rfl (by trivial) rfl aA ?_
 refine mD (.mref 0 [0]) _ rfl rfl (bF rfl) rfl aA ?_
 refine mD (.agg [.int .i64 p,.int .i64 q]) _ rfl rfl ⟨bF rfl,bF rfl,rfl⟩ rfl aA ?_
 refine mD (side:=KK.ints 2=KK.ints 2/\dB (.ints 2) (.agg [.int .i64 p,.int .i64 q])=true) (.int .i64 j) _ rfl ?_ ⟨rfl,rfl⟩ rfl aA ?_
 ·exact XZ (m:=⟨.ints 2,none⟩) rfl (hg (.int .i64 0) 0 [0])
 refine mD (.agg [.int .i64 i,.int .i64 a,.int .i64 b,.int .i64 j]) _ rfl rfl (by simp [qI,setFrom,cellsOf,jM,ev,au]) rfl aA ?_
 refine Qb (.ref 148 [] 4 0 1) [.put 148 (.osl 4 1 [.int .i64 i,.int .i64 a,.int .i64 b,.int .i64 j])] rfl rfl rfl (by refine ⟨?_,rfl,rfl⟩;repeat (first|trivial|refine ⟨?_,?_⟩)) rfl rfl aA (by simp only [tV,Ae];rfl) ?_
 refine Qb (side:=(4=4/\0+1*4<=4/\true=true)/\(R.length+1)*32<=140737488355328/\R.length+1<=maxLen/\4=4/\0+R.length*4<=(recs aC R).length) (.ref 164 [] 4 0 (R.length+1)) [.put 2 (.optr [.osl 1 F.length (HL.bools F),.dead]),.put 164 (.osl 4 (R.length+1) (recs aC (R++[⟨i,a,b,j⟩])))] rfl rfl ?_ ⟨⟨rfl,by omega,rfl⟩,by omega,by unfold maxLen;omega,rfl,by rw [Ox];omega⟩ rfl rfl aA (by simp only [tV,Ae];rfl) ?_
 ·have hw:win (recs aC R) 0 (R.length*4)++[HV.int .i64 i,.int .i64 a,.int .i64 b,.int .i64 j]=recs aC (R++[⟨i,a,b,j⟩]):=by
   rw [L8 _ rfl,JB]
  show (HV.ref 164 [] 4 0 (R.length+1),[Upd.put 2 (.optr [.osl 1 F.length (HL.bools F),.dead]),.put 164 (.osl 4 (R.length+1) (win (recs aC R) 0 (R.length*4)++[HV.int .i64 i,.int .i64 a,.int .i64 b,.int .i64 j]))],(4=4/\0+1*4<=4/\true=true)/\(R.length+1)*32<=140737488355328/\R.length+1<=maxLen/\4=4/\0+R.length*4<=(recs aC R).length)=_
  rw [hw]
 refine mD (.pref 2 [] 1) _ rfl rfl (by trivial) rfl aA ?_
 refine Qb (side:=((0=0/\R.length+1=R.length+1)/\True)/\[HV.osl 4 (R.length+1) (recs aC (R++[⟨i,a,b,j⟩]))].length=1/\0<1/\1+1<=2/\(false=true->bC [HV.osl 4 (R.length+1) (recs aC (R++[⟨i,a,b,j⟩]))]=true)) .dead [.put 164 .dead,.kill 2 0,.put 2 (.optr [.osl 1 F.length (HL.bools F),.osl 4 (R.length+1) (recs aC (R++[⟨i,a,b,j⟩]))])] rfl rfl rfl ⟨⟨⟨rfl,rfl⟩,trivial⟩,rfl,Nat.zero_lt_one,aY _,fun h=>absurd h (by decide)⟩ rfl rfl aA (by simp only [tV,Ae];rfl) ?_
 refine aaM rfl ?_
 refine Zz (rs:=[4,5,6]) aG Aw OM ?_
 rw [dQ] at h
 exact h
theorem KG (i a b p q:Int) (l:List Nd) (F:List Bool) (R:List A) (hl:l.length<=100000000) (hF:F.length<=100000000) (hR:R.length<=100000000) :
  HTI Try.prog 65 [.int .i64 i,.int .i64 a,.int .i64 b,.agg [.int .i64 p,.int .i64 q],lN l,lV l,kS F R] [4,5,6] (fun r outs=>r=.tup []/\outs=[lN (add1 i (l,R) (a,b,(p,q))).1,lV (add1 i (l,R) (a,b,(p,q))).1,kS F (add1 i (l,R) (a,b,(p,q))).2]):=by
 refine HTI.of rfl aen (bF rfl) 7 [4,5,6] (by rfl) (by rfl) (⟨[(0,.int .i64 i),(1,.int .i64 a),(2,.int .i64 b),(3,.agg [.int .i64 p,.int .i64 q]),(4,.pref 0 [] 0),(5,.pref 1 [] 0),(6,.pref 2 [] 0)],[(0,lN l),(1,lV l),(2,kS F R)],3⟩:St) rfl ?_
 unfold c65
 unfold lN lV kS YX
 by_cases h:(p,q)∈l
 ·have hg:=fun z id pa=>Ah z id pa h
  have h1:=WY h
  have e:add1 i (l,R) (a,b,(p,q))=(l,R++[⟨i,a,b,ixN l (p,q)⟩]):=by unfold add1 ins;simp only [if_pos h]
  rw [e]
  generalize ixN l (p,q)=j at hg h1
  refine fP @hg ⟨?_⟩
  refine bV [0,1,2,4,5,6,10] ⟨[(0,.int .i64 i),(1,.int .i64 a),(2,.int .i64 b),(4,.pref 0 [] 0),(5,.pref 1 [] 0),(6,.pref 2 [] 0),(10,.pref 3 [] 0)],[(0,lN l),(1,lV l),(2,kS F R),(3,.optr [.int .i64 p,.int .i64 q])],4⟩ rfl ?_
  refine step_end i a b p q l F R j hR hg ?_
  exact ⟨_,rfl,rfl,by simp [lN,lV,kS],rfl,rfl⟩
 ·have h1:=Zt h
  have hg:=fun z id pa=>Ah (l:=l++[(p,q)]) (p:=p) (q:=q) z id pa (by simp)
  have e:add1 i (l,R) (a,b,(p,q))=(l++[(p,q)],R++[⟨i,a,b,l.length⟩]):=by unfold add1 ins;simp only [if_neg h,h1]
  have hsn:(l++[(p,q)]).length=l.length+1:=by simp
  rw [h1] at hg
  rw [e]
  repeat (first|refine AB af rfl ?_|refine rD bP ?_|refine bg ?_|refine aU ?_|refine fM (by rfl) ?_|refine ug (by rfl) bD (by (try simp (disch:=omega) only [go_sem,reduceIte,Nat.reduceEqDiff,Nat.reduceAdd,Nat.reduceMul,vM _ _ _ h,pY rfl h]);try rfl) az (by (try simp (disch:=omega) only [go_sem,vM _ _ _ h,pY rfl h]);try rfl) af ?_|refine wU (by rfl) af ak jI uI (by rfl) wF (by rfl) wY (by (try simp (disch:=omega) only [go_sem,reduceIte,Nat.reduceEqDiff,Nat.reduceAdd,Nat.reduceMul,vM _ _ _ h,pY rfl h]);try rfl) az (by (try simp (disch:=omega) only [go_sem,vM _ _ _ h,pY rfl h]);try rfl) ak iL ?_|refine nC (by rfl) ?_|refine jD ?_|refine sK (by rfl) az af ?_|refine pJ (by rfl) bD ak az (by decide) (by (try simp (disch:=omega) only [go_sem,reduceIte,Nat.reduceEqDiff,Nat.reduceAdd,Nat.reduceMul,vM _ _ _ h,pY rfl h]);try rfl) dK ?_|refine pI bP (by rfl) af rU (by (try simp (disch:=omega) only [go_sem,reduceIte,Nat.reduceEqDiff,Nat.reduceAdd,Nat.reduceMul,vM _ _ _ h,pY rfl h]);try omega) bD (by (try simp (disch:=omega) only [go_sem,reduceIte,Nat.reduceEqDiff,Nat.reduceAdd,Nat.reduceMul,vM _ _ _ h,pY rfl h]);try rfl) bP (by omega) gz az (by (try simp (disch:=omega) only [go_sem,reduceIte,Nat.reduceEqDiff,Nat.reduceAdd,Nat.reduceMul,vM _ _ _ h,pY rfl h]);try rfl) ak ?_|refine oz bP af ak dK (by rfl) ?_|refine ni (by rfl) ?_|refine mf (by rfl) (by rfl) dm af ⟨rfl,rfl⟩ (by (try simp (disch:=omega) only [go_sem,reduceIte,Nat.reduceEqDiff,Nat.reduceAdd,Nat.reduceMul,vM _ _ _ h,pY rfl h]);try rfl) (by rfl) ?_|refine jY (by rfl) af af gU (by trivial) gU dm ⟨rfl,rfl⟩ (by (try simp (disch:=omega) only [go_sem,reduceIte,Nat.reduceEqDiff,Nat.reduceAdd,Nat.reduceMul,vM _ _ _ h,pY rfl h]);try rfl) ak iL ?_)
  refine bV [0,1,2,4,5,6,10] ⟨[(0,.int .i64 i),(1,.int .i64 a),(2,.int .i64 b),(4,.pref 0 [] 0),(5,.pref 1 [] 0),(6,.pref 2 [] 0),(10,.pref 3 [] 0)],[(0,lN (l++[(p,q)])),(1,lV (l++[(p,q)])),(2,kS F R),(3,.optr [.int .i64 p,.int .i64 q])],4⟩ (by unfold lN lV kS YX;rw [hsn];rfl) ?_
  refine step_end i a b p q (l++[(p,q)]) F R l.length hR hg ?_
  exact ⟨_,rfl,rfl,by simp [lN,lV,kS],rfl,rfl⟩
theorem ab7 {k:List HI} [hp:Plain k] {rs:List Nat} {Kp:HV->Prop} {x:HCode} (A2 A3 A6 A7:List HV) (n6 n7 i:Nat) (v:Nd) (two:List A) (F:List Bool) (st:CS) (h2:two.length<=8192) (hs1:st.1.length<=50000) (hs2:st.2.length<=50000) (hF:F.length<=50000)
  (h:hx Try.prog (.c x::k) (finish rs Kp) ⟨[(2,.ptr A2 0),(3,.ptr A3 0),(4,.pref 0 [] 0),(5,.int .i64 0),(6,.sl n6 A6),(7,.sl n7 A7),(8,.pref 1 [] 0),(9,.pref 2 [] 0),(10,.pref 3 [] 0),(11,.fn 65 [.pref 1 [] 0,.pref 2 [] 0,.pref 3 [] 0]),(12,.int .i64 i),(13,.ptr [.int .i64 v.1,.int .i64 v.2] 0)],[(0,.optr [.nils,.nils]),(1,lN (jc i st (stA two v)).1),(2,lV (jc i st (stA two v)).1),(3,kS F (jc i st (stA two v)).2)],4⟩) :
  hx Try.prog (.c (.loop aaq)::.b 2::.c x::k) (finish rs Kp) ⟨[(2,.ptr A2 0),(3,.ptr A3 0),(4,.pref 0 [] 0),(5,.int .i64 0),(6,.sl n6 A6),(7,.sl n7 A7),(8,.pref 1 [] 0),(9,.pref 2 [] 0),(10,.pref 3 [] 0),(11,.fn 65 [.pref 1 [] 0,.pref 2 [] 0,.pref 3 [] 0]),(12,.int .i64 i),(13,.ptr [.int .i64 v.1,.int .i64 v.2] 0),(72,.sl two.length (recs aC two)),(73,.int .i64 two.length),(74,.int .i64 0)],[(0,.optr [.nils,.nils]),(1,lN st.1),(2,lV st.1),(3,kS F st.2)],4⟩:=by
 refine aF [2,3,4,5,6,7,8,9,10,11,12,13,72,73,74] (fun j:Nat=>j<=two.length)
  (fun j=>⟨[(2,.ptr A2 0),(3,.ptr A3 0),(4,.pref 0 [] 0),(5,.int .i64 0),(6,.sl n6 A6),(7,.sl n7 A7),(8,.pref 1 [] 0),(9,.pref 2 [] 0),(10,.pref 3 [] 0),(11,.fn 65 [.pref 1 [] 0,.pref 2 [] 0,.pref 3 [] 0]),(12,.int .i64 i),(13,.ptr [.int .i64 v.1,.int .i64 v.2] 0),(72,.sl two.length (recs aC two)),(73,.int .i64 two.length),(74,.int .i64 j)],[(0,.optr [.nils,.nils]),(1,lN (jc i st (stA (two.take j) v)).1),(2,lV (jc i st (stA (two.take j) v)).1),(3,kS F (jc i st (stA (two.take j) v)).2)],4⟩)
  (fun j=>two.length - j) 0 (by omega) rfl ?_
 intro j hj
 have hst:=wI (i:=i) (l:=stA (two.take j) v) (st:=st)
 have hsl:=Q4 (two:=two.take j) (v:=v)
 rw [eu] at hsl
 by_cases hjl:j<two.length
 ·have htk:=VA (v:=v) hjl
  have hap:=fun m=>Du (i:=i) (st:=st) (l:=stA (two.take j) v) (m:=m)
  obtain ⟨sj,hsj⟩:∃sj,jc i st (stA (two.take j) v)=sj:=⟨_,rfl⟩
  rw [hsj] at hst hap ⊢
  by_cases hb:(two.getD j default).i = -1
  ·rw [if_pos hb] at htk
   have hns:=hap [(-1,(two.getD j default).o,(v.1,(two.getD j default).t))]
   rw [<- htk,Hg] at hns
   have hstep:=KG i (-1) (two.getD j default).o v.1 (two.getD j default).t sj.1 F sj.2 (by omega) (by omega) (by omega)
   refine zF ⟨?_⟩
   refine sJ [4,5,6] [1,2,3] (by rfl) G6 Aw OM rfl (by decide) (hstep) ?_
   rintro _ _ ⟨rfl,rfl⟩ -
   refine ⟨_,_,_,_,_,IB,(by decide),DI,?_⟩
   refine zF ⟨?_⟩
   exact aV [2,3,4,5,6,7,8,9,10,11,12,13,72,73,74] (j+1) hjl (by omega) (by simp only [hns];rfl)
  ·rw [if_neg hb,List.append_nil] at htk
   refine zF ⟨?_⟩
   exact aV [2,3,4,5,6,7,8,9,10,11,12,13,72,73,74] (j+1) hjl (by omega) (by simp only [htk,hsj];rfl)
 ·obtain rfl:j=two.length:=by omega
  rw [ig]
  refine zF ⟨?_⟩
  exact bV [2,3,4,5,6,7,8,9,10,11,12,13] _ rfl h
theorem ab5 {k:List HI} [hp:Plain k] {rs:List Nat} {Kp:HV->Prop} {x:HCode} (A2 A3 A6 A7:List HV) (n6 n7 i:Nat) (v:Nd) (a:A) (j1 m1:Nat) (R1:List HV) (two:List A) (F:List Bool) (st:CS) (h2:two.length<=8192) (hs1:st.1.length<=90000000) (hs2:st.2.length<=90000000) (hF:F.length<=50000)
  (h:hx Try.prog (.c x::k) (finish rs Kp) ⟨[(2,.ptr A2 0),(3,.ptr A3 0),(4,.pref 0 [] 0),(5,.int .i64 0),(6,.sl n6 A6),(7,.sl n7 A7),(8,.pref 1 [] 0),(9,.pref 2 [] 0),(10,.pref 3 [] 0),(11,.fn 65 [.pref 1 [] 0,.pref 2 [] 0,.pref 3 [] 0]),(12,.int .i64 i),(13,.ptr [.int .i64 v.1,.int .i64 v.2] 0),(17,.ptr [.int .i64 a.f,.int .i64 a.i,.int .i64 a.o,.int .i64 a.t] 0),(96,.sl m1 R1),(97,.int .i64 m1),(98,.int .i64 j1)],[(0,.optr [.nils,.nils]),(1,lN (jc i st (stB a two)).1),(2,lV (jc i st (stB a two)).1),(3,kS F (jc i st (stB a two)).2)],4⟩) :
  hx Try.prog (.c (.loop WZ)::.b 6::.b 5::.c x::k) (finish rs Kp) ⟨[(2,.ptr A2 0),(3,.ptr A3 0),(4,.pref 0 [] 0),(5,.int .i64 0),(6,.sl n6 A6),(7,.sl n7 A7),(8,.pref 1 [] 0),(9,.pref 2 [] 0),(10,.pref 3 [] 0),(11,.fn 65 [.pref 1 [] 0,.pref 2 [] 0,.pref 3 [] 0]),(12,.int .i64 i),(13,.ptr [.int .i64 v.1,.int .i64 v.2] 0),(17,.ptr [.int .i64 a.f,.int .i64 a.i,.int .i64 a.o,.int .i64 a.t] 0),(96,.sl m1 R1),(97,.int .i64 m1),(98,.int .i64 j1),(119,.sl two.length (recs aC two)),(120,.int .i64 two.length),(121,.int .i64 0)],[(0,.optr [.nils,.nils]),(1,lN st.1),(2,lV st.1),(3,kS F st.2)],4⟩:=by
 refine aF [2,3,4,5,6,7,8,9,10,11,12,13,17,96,97,98,119,120,121] (fun j:Nat=>j<=two.length)
  (fun j=>⟨[(2,.ptr A2 0),(3,.ptr A3 0),(4,.pref 0 [] 0),(5,.int .i64 0),(6,.sl n6 A6),(7,.sl n7 A7),(8,.pref 1 [] 0),(9,.pref 2 [] 0),(10,.pref 3 [] 0),(11,.fn 65 [.pref 1 [] 0,.pref 2 [] 0,.pref 3 [] 0]),(12,.int .i64 i),(13,.ptr [.int .i64 v.1,.int .i64 v.2] 0),(17,.ptr [.int .i64 a.f,.int .i64 a.i,.int .i64 a.o,.int .i64 a.t] 0),(96,.sl m1 R1),(97,.int .i64 m1),(98,.int .i64 j1),(119,.sl two.length (recs aC two)),(120,.int .i64 two.length),(121,.int .i64 j)],[(0,.optr [.nils,.nils]),(1,lN (jc i st (stB a (two.take j))).1),(2,lV (jc i st (stB a (two.take j))).1),(3,kS F (jc i st (stB a (two.take j))).2)],4⟩)
  (fun j=>two.length - j) 0 (by omega) rfl ?_
 intro j hj
 have hst:=wI (i:=i) (l:=stB a (two.take j)) (st:=st)
 have hsl:=QK (a:=a) (two:=two.take j)
 rw [eu] at hsl
 by_cases hjl:j<two.length
 ·have htk:=Xr (a:=a) hjl
  have hap:=fun m=>Du (i:=i) (st:=st) (l:=stB a (two.take j)) (m:=m)
  obtain ⟨sj,hsj⟩:∃sj,jc i st (stB a (two.take j))=sj:=⟨_,rfl⟩
  rw [hsj] at hst hap ⊢
  by_cases hb:(two.getD j default).i=a.o
  ·rw [if_pos hb] at htk
   have hns:=hap [(a.i,(two.getD j default).o,(a.t,(two.getD j default).t))]
   rw [<- htk,Hg] at hns
   have hstep:=KG i a.i (two.getD j default).o a.t (two.getD j default).t sj.1 F sj.2 (by omega) (by omega) (by omega)
   refine zF ⟨?_⟩
   refine sJ [4,5,6] [1,2,3] (by rfl) G6 Aw OM rfl (by decide) (hstep) ?_
   rintro _ _ ⟨rfl,rfl⟩ -
   refine ⟨_,_,_,_,_,IB,(by decide),DI,?_⟩
   refine zF ⟨?_⟩
   exact aV [2,3,4,5,6,7,8,9,10,11,12,13,17,96,97,98,119,120,121] (j+1) hjl (by omega) (by simp only [hns];rfl)
  ·rw [if_neg hb,List.append_nil] at htk
   refine zF ⟨?_⟩
   exact aV [2,3,4,5,6,7,8,9,10,11,12,13,17,96,97,98,119,120,121] (j+1) hjl (by omega) (by simp only [htk,hsj];rfl)
 ·obtain rfl:j=two.length:=by omega
  rw [ig]
  refine zF ⟨?_⟩
  exact bV [2,3,4,5,6,7,8,9,10,11,12,13,17,96,97,98] _ rfl h
theorem abJ {k:List HI} [hp:Plain k] {rs:List Nat} {Kp:HV->Prop} {x:HCode} (A2 A3 A6 A7:List HV) (n6 n7 i:Nat) (v:Nd) (one two:List A) (F:List Bool) (st:CS) (h1:one.length<=8192) (h2:two.length<=8192) (hs1:st.1.length<=50000) (hs2:st.2.length<=50000) (hF:F.length<=50000) (hv1:0<=v.2) (hv2:v.2<n7) (hl7:A7.length=n7) (h7:A7.getD v.2.toNat .dead=.sl two.length (recs aC two))
  (h:hx Try.prog (.c x::k) (finish rs Kp) ⟨[(2,.ptr A2 0),(3,.ptr A3 0),(4,.pref 0 [] 0),(5,.int .i64 0),(6,.sl n6 A6),(7,.sl n7 A7),(8,.pref 1 [] 0),(9,.pref 2 [] 0),(10,.pref 3 [] 0),(11,.fn 65 [.pref 1 [] 0,.pref 2 [] 0,.pref 3 [] 0]),(12,.int .i64 i),(13,.ptr [.int .i64 v.1,.int .i64 v.2] 0)],[(0,.optr [.nils,.nils]),(1,lN (jc i st (one.flatMap fun a=>GX a two v)).1),(2,lV (jc i st (one.flatMap fun a=>GX a two v)).1),(3,kS F (jc i st (one.flatMap fun a=>GX a two v)).2)],4⟩) :
  hx Try.prog (.c (.loop VH)::.b 4::.c x::k) (finish rs Kp) ⟨[(2,.ptr A2 0),(3,.ptr A3 0),(4,.pref 0 [] 0),(5,.int .i64 0),(6,.sl n6 A6),(7,.sl n7 A7),(8,.pref 1 [] 0),(9,.pref 2 [] 0),(10,.pref 3 [] 0),(11,.fn 65 [.pref 1 [] 0,.pref 2 [] 0,.pref 3 [] 0]),(12,.int .i64 i),(13,.ptr [.int .i64 v.1,.int .i64 v.2] 0),(96,.sl one.length (recs aC one)),(97,.int .i64 one.length),(98,.int .i64 0)],[(0,.optr [.nils,.nils]),(1,lN st.1),(2,lV st.1),(3,kS F st.2)],4⟩:=by
 refine aF [2,3,4,5,6,7,8,9,10,11,12,13,96,97,98] (fun j:Nat=>j<=one.length)
  (fun j=>⟨[(2,.ptr A2 0),(3,.ptr A3 0),(4,.pref 0 [] 0),(5,.int .i64 0),(6,.sl n6 A6),(7,.sl n7 A7),(8,.pref 1 [] 0),(9,.pref 2 [] 0),(10,.pref 3 [] 0),(11,.fn 65 [.pref 1 [] 0,.pref 2 [] 0,.pref 3 [] 0]),(12,.int .i64 i),(13,.ptr [.int .i64 v.1,.int .i64 v.2] 0),(96,.sl one.length (recs aC one)),(97,.int .i64 one.length),(98,.int .i64 j)],[(0,.optr [.nils,.nils]),(1,lN (jc i st ((one.take j).flatMap fun a=>GX a two v)).1),(2,lV (jc i st ((one.take j).flatMap fun a=>GX a two v)).1),(3,kS F (jc i st ((one.take j).flatMap fun a=>GX a two v)).2)],4⟩)
  (fun j=>one.length - j) 0 (by omega) rfl ?_
 intro j hj
 have hst:=wI (i:=i) (l:=((one.take j).flatMap fun a=>GX a two v)) (st:=st)
 have hsl:=RD (one:=one.take j) (two:=two) (v:=v)
 rw [eu] at hsl
 have hsm:min j one.length*(two.length+1)<=8192*8193:=CV (by omega) (by omega)
 by_cases hjl:j<one.length
 ·have htk:=Ye (two:=two) (v:=v) hjl
  have hap:=fun m=>Du (i:=i) (st:=st) (l:=((one.take j).flatMap fun a=>GX a two v)) (m:=m)
  obtain ⟨sj,hsj⟩:∃sj,jc i st ((one.take j).flatMap fun a=>GX a two v)=sj:=⟨_,rfl⟩
  rw [hsj] at hst hap ⊢
  by_cases hb:(one.getD j default).o = -1
  ·rw [GX,if_pos hb] at htk
   have hns:=hap [((one.getD j default).i,-1,((one.getD j default).t,v.2))]
   rw [<- htk,Hg] at hns
   have hstep:=KG i (one.getD j default).i (-1) (one.getD j default).t v.2 sj.1 F sj.2 (by omega) (by omega) (by omega)
   refine zF ⟨?_⟩
   refine sJ [4,5,6] [1,2,3] (by rfl) G6 Aw OM rfl (by decide) (hstep) ?_
   rintro _ _ ⟨rfl,rfl⟩ -
   refine ⟨_,_,_,_,_,IB,(by decide),DI,?_⟩
   refine zF ⟨?_⟩
   exact aV [2,3,4,5,6,7,8,9,10,11,12,13,96,97,98] (j+1) hjl (by omega) (by simp only [hns];rfl)
  ·rw [GX,if_neg hb] at htk
   have hns:=hap (stB (one.getD j default) two)
   rw [<- htk] at hns
   refine fP @h7 ⟨?_⟩
   refine aP 52 [2,3,4,5,6,7,8,9,10,11,12,13,17,96,97,98,119,120,121] ⟨[(2,.ptr A2 0),(3,.ptr A3 0),(4,.pref 0 [] 0),(5,.int .i64 0),(6,.sl n6 A6),(7,.sl n7 A7),(8,.pref 1 [] 0),(9,.pref 2 [] 0),(10,.pref 3 [] 0),(11,.fn 65 [.pref 1 [] 0,.pref 2 [] 0,.pref 3 [] 0]),(12,.int .i64 i),(13,.ptr [.int .i64 v.1,.int .i64 v.2] 0),(17,.ptr [.int .i64 (one.getD j default).f,.int .i64 (one.getD j default).i,.int .i64 (one.getD j default).o,.int .i64 (one.getD j default).t] 0),(96,.sl one.length (recs aC one)),(97,.int .i64 one.length),(98,.int .i64 j),(119,.sl two.length (recs aC two)),(120,.int .i64 two.length),(121,.int .i64 0)],[(0,.optr [.nils,.nils]),(1,lN sj.1),(2,lV sj.1),(3,kS F sj.2)],4⟩ rfl ?_
   refine ab5 A2 A3 A6 A7 n6 n7 i v (one.getD j default) j one.length (recs aC one) two F sj h2 (by omega) (by omega) hF ?_
   refine zF ⟨?_⟩
   exact aV [2,3,4,5,6,7,8,9,10,11,12,13,96,97,98] (j+1) hjl (by omega) (by simp only [hns];rfl)
 ·obtain rfl:j=one.length:=by omega
  rw [ig]
  refine zF ⟨?_⟩
  exact bV [2,3,4,5,6,7,8,9,10,11,12,13] _ rfl h
end Go.Proofs.Ytlbdmpjnmfmnfaa
end
