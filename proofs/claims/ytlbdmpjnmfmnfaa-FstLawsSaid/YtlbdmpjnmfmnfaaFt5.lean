import Derived.Test.YtlbdmpjnmfmnfaaFu2
import Derived.Test.YtlbdmpjnmfmnfaaFs2
import Derived.Test.YtlbdmpjnmfmnfaaHlFi
import Derived.Test.YtlbdmpjnmfmnfaaHlLg
section
set_option linter.unusedSimpArgs false
set_option linter.unusedVariables false
namespace Go.Proofs.Ytlbdmpjnmfmnfaa
open Go.RowKit Go.HL Go.FS
def idx (n:Nat):List HV:=(List.range n).map fun i:Nat=>.int .i64 i
theorem D9 (n:Nat):cZ (idx n)=true:=by simp [idx,cZ,gK]
theorem NV (n:Nat):idx n++[.int .i64 n]=idx (n+1):=by simp [idx,List.range_succ]
theorem BO {n j:Nat} (h:j<n):(idx n).getD j .dead=.int .i64 j:=by simp [idx,h]
abbrev TD (l:List Nd):HV:=.omap ⟨.ints 2,none⟩ (l.map pk) (idx l.length)
theorem Jn {l:List Nd} {p q:Int} (z:HV) (id:Nat) (pa:List Nat) (h:(p,q)∈l):nH id pa (l.map pk) (idx l.length) z (.agg [.int .i64 p,.int .i64 q])=(.int .i64 (qc l (p,q)),true):=by
 rw [uT (by simp [idx]) (D9 _),show HV.agg [.int .i64 p,.int .i64 q]=pk (p,q) from rfl]
 unfold zO
 rw [kS Bc,if_pos h]
 exact Prod.ext (BO (xg h)) rfl
theorem oK {l:List Nd} {p q:Int} (z:HV) (id:Nat) (pa:List Nat) (h:(p,q) ∉ l):nH id pa (l.map pk) (idx l.length) z (.agg [.int .i64 p,.int .i64 q])=(z,false):=by
 rw [uT (by simp [idx]) (D9 _),show HV.agg [.int .i64 p,.int .i64 q]=pk (p,q) from rfl]
 unfold zO
 rw [kS Bc,if_neg h]
theorem lQ {l:List Nd} {p q:Int} {n:Nat} (hn:n=l.length) (h:(p,q) ∉ l):ug ⟨.ints 2,none⟩ (l.map pk) (idx l.length) (.agg [.int .i64 p,.int .i64 q]) (.int .i64 n)=.omap ⟨.ints 2,none⟩ ((l++[(p,q)]).map pk) (idx (l++[(p,q)]).length):=by
 subst hn
 rw [show HV.agg [.int .i64 p,.int .i64 q]=pk (p,q) from rfl,DD Bc _ _ _ _ h,NV]
 simp
abbrev jY (l:List Nd):HV:=.optr [TD l]
abbrev ku (l:List Nd):HV:=.optr [.osl 2 l.length (recs pC l)]
abbrev jO (F:List Bool) (R:List A):HV:=.optr [.osl 1 F.length (HL.bools F),.osl 4 R.length (recs aC R)]
theorem Qg {L:Lk} {fr id:Nat} {path:List Nat} {m:MK} {ks cs:List HV} {kk:KK} {ok b:Bool} {zz kx w:HV} (hn:aJ (L id) path=.omap m ks cs) (hm:nH id path ks cs zz kx=(w,b)):aA L fr (.mlook ok kk zz (.mref id path) kx)=(okV ok w b,[],m.kind=kk/\dZ kk kx=true):=by
 unfold nH at hm
 cases hf:fG kx ks<;>rw [hf] at hm<;>simp only [Prod.mk.injEq] at hm<;>obtain ⟨rfl,rfl⟩:=hm<;>simp only [aA,hn,hf]
set_option maxHeartbeats 8000000 in
theorem step_end {Kp:HV->Prop} (i a b p q:Int) (l:List Nd) (F:List Bool) (R:List A) (j:Nat) (hR:R.length<=100000000) (hg:∀z id pa,nH id pa (l.map pk) (idx l.length) z (.agg [.int .i64 p,.int .i64 q])=(.int .i64 j,true))
  (h:Kp (dG [jY l,ku l,jO F (R++[⟨i,a,b,j⟩])])) :
  hx Try.prog [.c Nh] (finish [4,5,6] Kp) ⟨[(0,.int .i64 i),(1,.int .i64 a),(2,.int .i64 b),(4,.pref 0 [] 0),(5,.pref 1 [] 0),(6,.pref 2 [] 0),(10,.pref 3 [] 0)],[(0,jY l),(1,ku l),(2,jO F R),(3,.optr [.int .i64 p,.int .i64 q])],4⟩:=by
 unfold Nh
 unfold jY ku jO TD at h ⊢
 refine yR aT ?_
 refine iR (.pref 2 [] 1) _ rfl rfl (by trivial) rfl aT ?_
 refine iR (.ref 2 [1] 4 0 R.length) _ rfl rfl (Nat.le_of_ble_eq_true rfl) rfl aT ?_
 refine iR (.int .i64 i) _ rfl rfl (by trivial) rfl aT ?_
 refine iR (.int .i64 a) _ rfl rfl (by trivial) rfl aT ?_
 refine iR (.int .i64 b) _ rfl rfl (by trivial) rfl aT ?_
 refine iR (.mref 0 [0]) _ rfl rfl (Nat.le_of_ble_eq_true rfl) rfl aT ?_
 refine iR (.agg [.int .i64 p,.int .i64 q]) _ rfl rfl ⟨Nat.le_of_ble_eq_true rfl,Nat.le_of_ble_eq_true rfl,rfl⟩ rfl aT ?_
 refine iR (side:=KK.ints 2=KK.ints 2/\dZ (.ints 2) (.agg [.int .i64 p,.int .i64 q])=true) (.int .i64 j) _ rfl ?_ ⟨rfl,rfl⟩ rfl aT ?_
 ·exact Qg (m:=⟨.ints 2,none⟩) rfl (hg (.int .i64 0) 0 [0])
 refine iR (.agg [.int .i64 i,.int .i64 a,.int .i64 b,.int .i64 j]) _ rfl rfl (by simp [kM,setFrom,cellsOf,tN,ev,aG]) rfl aT ?_
 refine zU (.ref 148 [] 4 0 1) [.put 148 (.osl 4 1 [.int .i64 i,.int .i64 a,.int .i64 b,.int .i64 j])] rfl rfl rfl (by refine ⟨?_,rfl,rfl⟩;repeat (first|trivial|refine ⟨?_,?_⟩)) rfl rfl aT kF ?_
 refine zU (side:=(4=4/\0+1*4<=4/\true=true)/\(R.length+1)*32<=140737488355328/\R.length+1<=maxLen/\4=4/\0+R.length*4<=(recs aC R).length) (.ref 164 [] 4 0 (R.length+1)) [.put 2 (.optr [.osl 1 F.length (HL.bools F),.dead]),.put 164 (.osl 4 (R.length+1) (recs aC (R++[⟨i,a,b,j⟩])))] rfl rfl ?_ ⟨⟨rfl,by omega,rfl⟩,by omega,by unfold maxLen;omega,rfl,by rw [yu];omega⟩ rfl rfl aT kF ?_
 ·have hw:win (recs aC R) 0 (R.length*4)++[HV.int .i64 i,.int .i64 a,.int .i64 b,.int .i64 j]=recs aC (R++[⟨i,a,b,j⟩]):=by
   rw [yS _ rfl,xh]
  show (HV.ref 164 [] 4 0 (R.length+1),[Upd.put 2 (.optr [.osl 1 F.length (HL.bools F),.dead]),.put 164 (.osl 4 (R.length+1) (win (recs aC R) 0 (R.length*4)++[HV.int .i64 i,.int .i64 a,.int .i64 b,.int .i64 j]))],(4=4/\0+1*4<=4/\true=true)/\(R.length+1)*32<=140737488355328/\R.length+1<=maxLen/\4=4/\0+R.length*4<=(recs aC R).length)=_
  rw [hw]
 refine iR (.pref 2 [] 1) _ rfl rfl (by trivial) rfl aT ?_
 refine zU (side:=((0=0/\R.length+1=R.length+1)/\True)/\[HV.osl 4 (R.length+1) (recs aC (R++[⟨i,a,b,j⟩]))].length=1/\0<1/\1+1<=2/\(false=true->cZ [HV.osl 4 (R.length+1) (recs aC (R++[⟨i,a,b,j⟩]))]=true)) .dead [.put 164 .dead,.kill 2 0,.put 2 (.optr [.osl 1 F.length (HL.bools F),.osl 4 (R.length+1) (recs aC (R++[⟨i,a,b,j⟩]))])] rfl rfl rfl ⟨⟨⟨rfl,rfl⟩,trivial⟩,rfl,Nat.zero_lt_one,Nat.le_refl _,fun h=>absurd h (by decide)⟩ rfl rfl aT kF ?_
 refine Py rfl ?_
 refine Ue (rs:=[4,5,6]) bz CZ QN ?_
 rw [List.length_append] at h
 exact h
set_option maxHeartbeats 8000000 in
theorem CX (i a b p q:Int) (l:List Nd) (F:List Bool) (R:List A) (hl:l.length<=100000000) (hF:F.length<=100000000) (hR:R.length<=100000000) :
  HTI Try.prog 65 [.int .i64 i,.int .i64 a,.int .i64 b,.agg [.int .i64 p,.int .i64 q],jY l,ku l,jO F R] [4,5,6] (fun r outs=>r=.tup []/\outs=[jY (add1 i (l,R) (a,b,(p,q))).1,ku (add1 i (l,R) (a,b,(p,q))).1,jO F (add1 i (l,R) (a,b,(p,q))).2]):=by
 refine HTI.of rfl aew (Nat.le_of_ble_eq_true rfl) 7 [4,5,6] (by rfl) (by rfl) (⟨[(0,.int .i64 i),(1,.int .i64 a),(2,.int .i64 b),(3,.agg [.int .i64 p,.int .i64 q]),(4,.pref 0 [] 0),(5,.pref 1 [] 0),(6,.pref 2 [] 0)],[(0,jY l),(1,ku l),(2,jO F R)],3⟩:St) rfl ?_
 unfold c65
 unfold jY ku jO TD
 by_cases h:(p,q)∈l
 ·have hg:=fun z id pa=>Jn z id pa h
  have h1:=xg h
  have e:add1 i (l,R) (a,b,(p,q))=(l,R++[⟨i,a,b,qc l (p,q)⟩]):=by unfold add1 ins;simp only [if_pos h]
  rw [e]
  generalize qc l (p,q)=j at hg h1
  repeat (first|refine ah ?_|refine gJ (by rfl) bV (by (try simp (disch:=omega) only [go_sem,reduceIte,Nat.reduceEqDiff,Nat.reduceAdd,Nat.reduceMul,hg]);try rfl) aW (by (try simp (disch:=omega) only [go_sem,hg]);try rfl) aV ?_|refine af ?_|refine dJ ?_|refine au ?_|refine ak ?_|refine ae ?_|refine aF ?_|refine gW (by rfl) ?_|refine jF (by rfl) bV aP aW (by decide) (by (try simp (disch:=omega) only [go_sem,reduceIte,Nat.reduceEqDiff,Nat.reduceAdd,Nat.reduceMul,hg]);try rfl) ja ?_|refine dU ?_|refine qI (by rfl) (by rfl) (by exact eY rfl) aV ⟨rfl,rfl⟩ (by (try simp (disch:=omega) only [go_sem,reduceIte,Nat.reduceEqDiff,Nat.reduceAdd,Nat.reduceMul,hg]);try rfl) (by rfl) ?_)
  refine dV [0,1,2,4,5,6,10] ⟨[(0,.int .i64 i),(1,.int .i64 a),(2,.int .i64 b),(4,.pref 0 [] 0),(5,.pref 1 [] 0),(6,.pref 2 [] 0),(10,.pref 3 [] 0)],[(0,jY l),(1,ku l),(2,jO F R),(3,.optr [.int .i64 p,.int .i64 q])],4⟩ rfl ?_
  refine step_end i a b p q l F R j hR hg ?_
  exact ⟨_,rfl,rfl,by simp [jY,ku,jO],rfl,rfl⟩
 ·have h1:=QP h
  have hg:=fun z id pa=>Jn (l:=l++[(p,q)]) (p:=p) (q:=q) z id pa (by simp)
  have e:add1 i (l,R) (a,b,(p,q))=(l++[(p,q)],R++[⟨i,a,b,l.length⟩]):=by unfold add1 ins;simp only [if_neg h,h1]
  have hsn:(l++[(p,q)]).length=l.length+1:=by simp
  rw [h1] at hg
  rw [e]
  repeat (first|refine ah ?_|refine gJ (by rfl) bV (by (try simp (disch:=omega) only [go_sem,reduceIte,Nat.reduceEqDiff,Nat.reduceAdd,Nat.reduceMul,oK _ _ _ h,lQ rfl h]);try rfl) aW (by (try simp (disch:=omega) only [go_sem,oK _ _ _ h,lQ rfl h]);try rfl) aV ?_|refine af ?_|refine dJ ?_|refine fF (by rfl) ?_|refine ax ?_|refine ak ?_|refine ae ?_|refine iI (by rfl) ?_|refine jF (by rfl) bV aP aW (by decide) (by (try simp (disch:=omega) only [go_sem,reduceIte,Nat.reduceEqDiff,Nat.reduceAdd,Nat.reduceMul,oK _ _ _ h,lQ rfl h]);try rfl) ja ?_|refine lY (by rfl) aV aP jG mD (by rfl) mO (by rfl) mV (by (try simp (disch:=omega) only [go_sem,reduceIte,Nat.reduceEqDiff,Nat.reduceAdd,Nat.reduceMul,oK _ _ _ h,lQ rfl h]);try rfl) aW (by (try simp (disch:=omega) only [go_sem,oK _ _ _ h,lQ rfl h]);try rfl) aP jM ?_|refine bQ ?_|refine dU ?_|refine lD eH (by rfl) aV uS (by (try simp (disch:=omega) only [go_sem,reduceIte,Nat.reduceEqDiff,Nat.reduceAdd,Nat.reduceMul,oK _ _ _ h,lQ rfl h]);try omega) bV (by (try simp (disch:=omega) only [go_sem,reduceIte,Nat.reduceEqDiff,Nat.reduceAdd,Nat.reduceMul,oK _ _ _ h,lQ rfl h]);try rfl) eH (by omega) iU aW (by (try simp (disch:=omega) only [go_sem,reduceIte,Nat.reduceEqDiff,Nat.reduceAdd,Nat.reduceMul,oK _ _ _ h,lQ rfl h]);try rfl) aP ?_|refine qI (by rfl) (by rfl) (by exact eY rfl) aV ⟨rfl,rfl⟩ (by (try simp (disch:=omega) only [go_sem,reduceIte,Nat.reduceEqDiff,Nat.reduceAdd,Nat.reduceMul,oK _ _ _ h,lQ rfl h]);try rfl) (by rfl) ?_|refine qR (by rfl) aV aV mJ (by trivial) mJ (by exact eY rfl) ⟨rfl,rfl⟩ (by (try simp (disch:=omega) only [go_sem,reduceIte,Nat.reduceEqDiff,Nat.reduceAdd,Nat.reduceMul,oK _ _ _ h,lQ rfl h]);try rfl) aP jM ?_)
  refine dV [0,1,2,4,5,6,10] ⟨[(0,.int .i64 i),(1,.int .i64 a),(2,.int .i64 b),(4,.pref 0 [] 0),(5,.pref 1 [] 0),(6,.pref 2 [] 0),(10,.pref 3 [] 0)],[(0,jY (l++[(p,q)])),(1,ku (l++[(p,q)])),(2,jO F R),(3,.optr [.int .i64 p,.int .i64 q])],4⟩ (by unfold jY ku jO TD;rw [hsn];rfl) ?_
  refine step_end i a b p q (l++[(p,q)]) F R l.length hR hg ?_
  exact ⟨_,rfl,rfl,by simp [jY,ku,jO],rfl,rfl⟩
end Go.Proofs.Ytlbdmpjnmfmnfaa
end
section
set_option linter.unusedSimpArgs false
set_option linter.unusedVariables false
namespace Go.Proofs.Ytlbdmpjnmfmnfaa
open Go.RowKit Go.HL Go.FS
set_option maxHeartbeats 8000000 in
theorem Xg {k:List HI} [hp:Plain k] {rs:List Nat} {Kp:HV->Prop} {x:HCode} (A2 A3 A6 A7:List HV) (n6 n7 i:Nat) (v:Nd) (two:List A) (F:List Bool) (st:CS) (h2:two.length<=8192) (hs1:st.1.length<=50000) (hs2:st.2.length<=50000) (hF:F.length<=50000)
  (h:hx Try.prog (.c x::k) (finish rs Kp) ⟨[(2,.ptr A2 0),(3,.ptr A3 0),(4,.pref 0 [] 0),(5,.int .i64 0),(6,.sl n6 A6),(7,.sl n7 A7),(8,.pref 1 [] 0),(9,.pref 2 [] 0),(10,.pref 3 [] 0),(11,.fn 65 [.pref 1 [] 0,.pref 2 [] 0,.pref 3 [] 0]),(12,.int .i64 i),(13,.ptr [.int .i64 v.1,.int .i64 v.2] 0)],[(0,.optr [.nils,.nils]),(1,jY (ig i st (stA two v)).1),(2,ku (ig i st (stA two v)).1),(3,jO F (ig i st (stA two v)).2)],4⟩) :
  hx Try.prog (.c (.loop Uf)::.b 2::.c x::k) (finish rs Kp) ⟨[(2,.ptr A2 0),(3,.ptr A3 0),(4,.pref 0 [] 0),(5,.int .i64 0),(6,.sl n6 A6),(7,.sl n7 A7),(8,.pref 1 [] 0),(9,.pref 2 [] 0),(10,.pref 3 [] 0),(11,.fn 65 [.pref 1 [] 0,.pref 2 [] 0,.pref 3 [] 0]),(12,.int .i64 i),(13,.ptr [.int .i64 v.1,.int .i64 v.2] 0),(72,.sl two.length (recs aC two)),(73,.int .i64 two.length),(74,.int .i64 0)],[(0,.optr [.nils,.nils]),(1,jY st.1),(2,ku st.1),(3,jO F st.2)],4⟩:=by
 refine cu [2,3,4,5,6,7,8,9,10,11,12,13,72,73,74] (fun j:Nat=>j<=two.length)
  (fun j=>⟨[(2,.ptr A2 0),(3,.ptr A3 0),(4,.pref 0 [] 0),(5,.int .i64 0),(6,.sl n6 A6),(7,.sl n7 A7),(8,.pref 1 [] 0),(9,.pref 2 [] 0),(10,.pref 3 [] 0),(11,.fn 65 [.pref 1 [] 0,.pref 2 [] 0,.pref 3 [] 0]),(12,.int .i64 i),(13,.ptr [.int .i64 v.1,.int .i64 v.2] 0),(72,.sl two.length (recs aC two)),(73,.int .i64 two.length),(74,.int .i64 j)],[(0,.optr [.nils,.nils]),(1,jY (ig i st (stA (two.take j) v)).1),(2,ku (ig i st (stA (two.take j) v)).1),(3,jO F (ig i st (stA (two.take j) v)).2)],4⟩)
  (fun j=>two.length - j) 0 (by omega) rfl ?_
 intro j hj
 have hst:=nG (i:=i) (l:=stA (two.take j) v) (st:=st)
 have hsl:=BQ (two:=two.take j) (v:=v)
 rw [List.length_take] at hsl
 by_cases hjl:j<two.length
 ·have htk:=PH (v:=v) hjl
  have hap:=fun m=>wC (i:=i) (st:=st) (l:=stA (two.take j) v) (m:=m)
  obtain ⟨sj,hsj⟩:∃sj,ig i st (stA (two.take j) v)=sj:=⟨_,rfl⟩
  rw [hsj] at hst hap ⊢
  by_cases hb:(two.getD j default).i = -1
  ·rw [if_pos hb] at htk
   have hns:=hap [(-1,(two.getD j default).o,(v.1,(two.getD j default).t))]
   rw [<- htk,yH] at hns
   have hstep:=CX i (-1) (two.getD j default).o v.1 (two.getD j default).t sj.1 F sj.2 (by omega) (by omega) (by omega)
   repeat (first|refine ah ?_|refine aU ?_|refine bZ ?_|refine aZ ?_|refine af ?_|refine az ?_|refine dX ?_|refine ax ?_|refine ak ?_|refine ae ?_|refine aB ?_|refine aF ?_|refine dE ?_|refine aI ?_|refine bn ?_|refine dK ?_|refine bP eH ?_|refine di ?_)
   refine zG [4,5,6] [1,2,3] (by rfl) (by (try simp only [List.map_cons,List.map_nil,List.cons_append,List.nil_append]);repeat (first|(apply Yi;· exact aV)|rfl)) CZ QN rfl (by decide) (hstep) ?_
   rintro _ _ ⟨rfl,rfl⟩ -
   refine ⟨_,_,_,_,_,fU,(by decide),Gf,?_⟩
   repeat (first|refine ah ?_|refine af ?_|refine bH ?_|refine ae ?_|refine fK ?_)
   exact dB [2,3,4,5,6,7,8,9,10,11,12,13,72,73,74] (j+1) hjl (by omega) (by simp only [hns];rfl)
  ·rw [if_neg hb,List.append_nil] at htk
   repeat (first|refine ah ?_|refine aU ?_|refine aZ ?_|refine af ?_|refine az ?_|refine dX ?_|refine bH ?_|refine ax ?_|refine au ?_|refine ak ?_|refine ae ?_|refine aB ?_|refine fK ?_|refine aF ?_|refine aI ?_|refine bn ?_|refine dK ?_|refine bP eH ?_)
   exact dB [2,3,4,5,6,7,8,9,10,11,12,13,72,73,74] (j+1) hjl (by omega) (by simp only [htk,hsj];rfl)
 ·obtain rfl:j=two.length:=by omega
  rw [List.take_length]
  repeat (first|refine af ?_|refine az ?_|refine bK (by rfl) ?_|refine au ?_|refine ak ?_|refine ae ?_)
  exact dV [2,3,4,5,6,7,8,9,10,11,12,13] _ rfl h
set_option maxHeartbeats 8000000 in
theorem Wq {k:List HI} [hp:Plain k] {rs:List Nat} {Kp:HV->Prop} {x:HCode} (A2 A3 A6 A7:List HV) (n6 n7 i:Nat) (v:Nd) (a:A) (j1 m1:Nat) (R1:List HV) (two:List A) (F:List Bool) (st:CS) (h2:two.length<=8192) (hs1:st.1.length<=90000000) (hs2:st.2.length<=90000000) (hF:F.length<=50000)
  (h:hx Try.prog (.c x::k) (finish rs Kp) ⟨[(2,.ptr A2 0),(3,.ptr A3 0),(4,.pref 0 [] 0),(5,.int .i64 0),(6,.sl n6 A6),(7,.sl n7 A7),(8,.pref 1 [] 0),(9,.pref 2 [] 0),(10,.pref 3 [] 0),(11,.fn 65 [.pref 1 [] 0,.pref 2 [] 0,.pref 3 [] 0]),(12,.int .i64 i),(13,.ptr [.int .i64 v.1,.int .i64 v.2] 0),(17,.ptr [.int .i64 a.f,.int .i64 a.i,.int .i64 a.o,.int .i64 a.t] 0),(96,.sl m1 R1),(97,.int .i64 m1),(98,.int .i64 j1)],[(0,.optr [.nils,.nils]),(1,jY (ig i st (stB a two)).1),(2,ku (ig i st (stB a two)).1),(3,jO F (ig i st (stB a two)).2)],4⟩) :
  hx Try.prog (.c (.loop Oy)::.b 6::.b 5::.c x::k) (finish rs Kp) ⟨[(2,.ptr A2 0),(3,.ptr A3 0),(4,.pref 0 [] 0),(5,.int .i64 0),(6,.sl n6 A6),(7,.sl n7 A7),(8,.pref 1 [] 0),(9,.pref 2 [] 0),(10,.pref 3 [] 0),(11,.fn 65 [.pref 1 [] 0,.pref 2 [] 0,.pref 3 [] 0]),(12,.int .i64 i),(13,.ptr [.int .i64 v.1,.int .i64 v.2] 0),(17,.ptr [.int .i64 a.f,.int .i64 a.i,.int .i64 a.o,.int .i64 a.t] 0),(96,.sl m1 R1),(97,.int .i64 m1),(98,.int .i64 j1),(119,.sl two.length (recs aC two)),(120,.int .i64 two.length),(121,.int .i64 0)],[(0,.optr [.nils,.nils]),(1,jY st.1),(2,ku st.1),(3,jO F st.2)],4⟩:=by
 refine cu [2,3,4,5,6,7,8,9,10,11,12,13,17,96,97,98,119,120,121] (fun j:Nat=>j<=two.length)
  (fun j=>⟨[(2,.ptr A2 0),(3,.ptr A3 0),(4,.pref 0 [] 0),(5,.int .i64 0),(6,.sl n6 A6),(7,.sl n7 A7),(8,.pref 1 [] 0),(9,.pref 2 [] 0),(10,.pref 3 [] 0),(11,.fn 65 [.pref 1 [] 0,.pref 2 [] 0,.pref 3 [] 0]),(12,.int .i64 i),(13,.ptr [.int .i64 v.1,.int .i64 v.2] 0),(17,.ptr [.int .i64 a.f,.int .i64 a.i,.int .i64 a.o,.int .i64 a.t] 0),(96,.sl m1 R1),(97,.int .i64 m1),(98,.int .i64 j1),(119,.sl two.length (recs aC two)),(120,.int .i64 two.length),(121,.int .i64 j)],[(0,.optr [.nils,.nils]),(1,jY (ig i st (stB a (two.take j))).1),(2,ku (ig i st (stB a (two.take j))).1),(3,jO F (ig i st (stB a (two.take j))).2)],4⟩)
  (fun j=>two.length - j) 0 (by omega) rfl ?_
 intro j hj
 have hst:=nG (i:=i) (l:=stB a (two.take j)) (st:=st)
 have hsl:=JM (a:=a) (two:=two.take j)
 rw [List.length_take] at hsl
 by_cases hjl:j<two.length
 ·have htk:=PL (a:=a) hjl
  have hap:=fun m=>wC (i:=i) (st:=st) (l:=stB a (two.take j)) (m:=m)
  obtain ⟨sj,hsj⟩:∃sj,ig i st (stB a (two.take j))=sj:=⟨_,rfl⟩
  rw [hsj] at hst hap ⊢
  by_cases hb:(two.getD j default).i=a.o
  ·rw [if_pos hb] at htk
   have hns:=hap [(a.i,(two.getD j default).o,(a.t,(two.getD j default).t))]
   rw [<- htk,yH] at hns
   have hstep:=CX i a.i (two.getD j default).o a.t (two.getD j default).t sj.1 F sj.2 (by omega) (by omega) (by omega)
   repeat (first|refine ah ?_|refine aU ?_|refine bZ ?_|refine aZ ?_|refine af ?_|refine az ?_|refine dX ?_|refine ax ?_|refine ak ?_|refine ae ?_|refine aB ?_|refine aF ?_|refine dE ?_|refine aI ?_|refine bn ?_|refine dK ?_|refine bP eH ?_|refine di ?_)
   refine zG [4,5,6] [1,2,3] (by rfl) (by (try simp only [List.map_cons,List.map_nil,List.cons_append,List.nil_append]);repeat (first|(apply Yi;· exact aV)|rfl)) CZ QN rfl (by decide) (hstep) ?_
   rintro _ _ ⟨rfl,rfl⟩ -
   refine ⟨_,_,_,_,_,fU,(by decide),Gf,?_⟩
   repeat (first|refine ah ?_|refine af ?_|refine bH ?_|refine ae ?_|refine fK ?_)
   exact dB [2,3,4,5,6,7,8,9,10,11,12,13,17,96,97,98,119,120,121] (j+1) hjl (by omega) (by simp only [hns];rfl)
  ·rw [if_neg hb,List.append_nil] at htk
   repeat (first|refine ah ?_|refine aU ?_|refine bZ ?_|refine aZ ?_|refine af ?_|refine az ?_|refine dX ?_|refine bH ?_|refine ax ?_|refine au ?_|refine ak ?_|refine ae ?_|refine aB ?_|refine fK ?_|refine aF ?_|refine dE ?_|refine aI ?_|refine bn ?_|refine dK ?_|refine bP eH ?_)
   exact dB [2,3,4,5,6,7,8,9,10,11,12,13,17,96,97,98,119,120,121] (j+1) hjl (by omega) (by simp only [htk,hsj];rfl)
 ·obtain rfl:j=two.length:=by omega
  rw [List.take_length]
  repeat (first|refine af ?_|refine az ?_|refine bK (by rfl) ?_|refine au ?_|refine ak ?_|refine ae ?_|refine fK ?_)
  exact dV [2,3,4,5,6,7,8,9,10,11,12,13,17,96,97,98] _ rfl h
end Go.Proofs.Ytlbdmpjnmfmnfaa
end
