import Derived.Test.YtlbdmpjnmfmnfaaFt5
set_option linter.unusedSimpArgs false
set_option linter.unusedVariables false
namespace Go.Proofs.Ytlbdmpjnmfmnfaa
open Go.RowKit Go.HL Go.FS
set_option maxHeartbeats 8000000 in
theorem Qo {k:List HI} [hp:Plain k] {rs:List Nat} {Kp:HV->Prop} {x:HCode} (A2 A3 A6 A7:List HV) (n6 n7 i:Nat) (v:Nd) (one two:List A) (F:List Bool) (st:CS) (h1:one.length<=8192) (h2:two.length<=8192) (hs1:st.1.length<=50000) (hs2:st.2.length<=50000) (hF:F.length<=50000) (hv1:0<=v.2) (hv2:v.2<n7) (hl7:A7.length=n7) (h7:A7.getD v.2.toNat .dead=.sl two.length (recs aC two))
  (h:hx Try.prog (.c x::k) (finish rs Kp) ⟨[(2,.ptr A2 0),(3,.ptr A3 0),(4,.pref 0 [] 0),(5,.int .i64 0),(6,.sl n6 A6),(7,.sl n7 A7),(8,.pref 1 [] 0),(9,.pref 2 [] 0),(10,.pref 3 [] 0),(11,.fn 65 [.pref 1 [] 0,.pref 2 [] 0,.pref 3 [] 0]),(12,.int .i64 i),(13,.ptr [.int .i64 v.1,.int .i64 v.2] 0)],[(0,.optr [.nils,.nils]),(1,jd (fV i st (one.flatMap fun a=>wF a two v)).1),(2,je (fV i st (one.flatMap fun a=>wF a two v)).1),(3,iY F (fV i st (one.flatMap fun a=>wF a two v)).2)],4⟩) :
  hx Try.prog (.c (.loop Jg)::.b 4::.c x::k) (finish rs Kp) ⟨[(2,.ptr A2 0),(3,.ptr A3 0),(4,.pref 0 [] 0),(5,.int .i64 0),(6,.sl n6 A6),(7,.sl n7 A7),(8,.pref 1 [] 0),(9,.pref 2 [] 0),(10,.pref 3 [] 0),(11,.fn 65 [.pref 1 [] 0,.pref 2 [] 0,.pref 3 [] 0]),(12,.int .i64 i),(13,.ptr [.int .i64 v.1,.int .i64 v.2] 0),(96,.sl one.length (recs aC one)),(97,.int .i64 one.length),(98,.int .i64 0)],[(0,.optr [.nils,.nils]),(1,jd st.1),(2,je st.1),(3,iY F st.2)],4⟩:=by
 refine cu [2,3,4,5,6,7,8,9,10,11,12,13,96,97,98] (fun j:Nat=>j<=one.length)
  (fun j=>⟨[(2,.ptr A2 0),(3,.ptr A3 0),(4,.pref 0 [] 0),(5,.int .i64 0),(6,.sl n6 A6),(7,.sl n7 A7),(8,.pref 1 [] 0),(9,.pref 2 [] 0),(10,.pref 3 [] 0),(11,.fn 65 [.pref 1 [] 0,.pref 2 [] 0,.pref 3 [] 0]),(12,.int .i64 i),(13,.ptr [.int .i64 v.1,.int .i64 v.2] 0),(96,.sl one.length (recs aC one)),(97,.int .i64 one.length),(98,.int .i64 j)],[(0,.optr [.nils,.nils]),(1,jd (fV i st ((one.take j).flatMap fun a=>wF a two v)).1),(2,je (fV i st ((one.take j).flatMap fun a=>wF a two v)).1),(3,iY F (fV i st ((one.take j).flatMap fun a=>wF a two v)).2)],4⟩)
  (fun j=>one.length - j) 0 (by omega) rfl ?_
 intro j hj
 have hst:=lD (i:=i) (l:=((one.take j).flatMap fun a=>wF a two v)) (st:=st)
 have hsl:=zL (one:=one.take j) (two:=two) (v:=v)
 rw [List.length_take] at hsl
 have hsm:min j one.length*(two.length+1)<=8192*8193:=Nat.mul_le_mul (by omega) (by omega)
 by_cases hjl:j<one.length
 ·have htk:=JA (two:=two) (v:=v) hjl
  have hap:=fun m=>rJ (i:=i) (st:=st) (l:=((one.take j).flatMap fun a=>wF a two v)) (m:=m)
  obtain ⟨sj,hsj⟩:∃sj,fV i st ((one.take j).flatMap fun a=>wF a two v)=sj:=⟨_,rfl⟩
  rw [hsj] at hst hap ⊢
  by_cases hb:(one.getD j default).o = -1
  ·rw [wF,if_pos hb] at htk
   have hns:=hap [((one.getD j default).i,-1,((one.getD j default).t,v.2))]
   rw [<- htk,vI] at hns
   have hstep:=zX i (one.getD j default).i (-1) (one.getD j default).t v.2 sj.1 F sj.2 (by omega) (by omega) (by omega)
   repeat (first|refine ag ?_|refine aT ?_|refine bU ?_|refine aY ?_|refine af ?_|refine az ?_|refine dH ?_|refine ak ?_|refine ah ?_|refine ae ?_|refine aG ?_|refine aA ?_|refine dD ?_|refine aI ?_|refine bI ?_|refine dJ ?_|refine bY dZ ?_|refine di ?_)
   refine xk [4,5,6] [1,2,3] (by rfl) (by (try simp only [List.map_cons,List.map_nil,List.cons_append,List.nil_append]);repeat (first|(apply TC;· exact aJ)|rfl)) Em Pm rfl (by decide) (hstep) ?_
   rintro _ _ ⟨rfl,rfl⟩ -
   refine ⟨_,_,_,_,_,gV,(by decide),Ia,?_⟩
   repeat (first|refine ag ?_|refine af ?_|refine bz ?_|refine bF (by rfl) ?_|refine ae ?_)
   exact dC [2,3,4,5,6,7,8,9,10,11,12,13,96,97,98] (j+1) hjl (by omega) (by simp only [hns];rfl)
  ·rw [wF,if_neg hb] at htk
   have hns:=hap (stB (one.getD j default) two)
   rw [<- htk] at hns
   repeat (first|refine ag ?_|refine aT ?_|refine jc (by rfl) aS (by (try simp (disch:=omega) only [go_sem,h7]);try rfl) ?_|refine iw (by rfl) bT (by (try simp (disch:=omega) only [go_sem,reduceIte,Nat.reduceEqDiff,Nat.reduceAdd,Nat.reduceMul,h7]);try rfl) aS (by (try simp (disch:=omega) only [go_sem,h7]);try rfl) aJ ?_|refine af ?_|refine az ?_|refine dH ?_|refine aP ?_|refine ak ?_|refine au ?_|refine ah ?_|refine ae ?_|refine aG ?_|refine aA ?_|refine dD ?_|refine aI ?_|refine uy (by rfl) aS (by (try simp (disch:=omega) only [go_sem,reduceIte,Nat.reduceEqDiff,Nat.reduceAdd,Nat.reduceMul,h7]);try rfl) ?_|refine zM (by rfl) aJ aV iO (by rfl) (by decide) bT aV aS (by (try simp (disch:=omega) only [go_sem,h7]);try rfl) aV ?_|refine bY dZ ?_)
   refine bM 52 [2,3,4,5,6,7,8,9,10,11,12,13,17,96,97,98,119,120,121] ⟨[(2,.ptr A2 0),(3,.ptr A3 0),(4,.pref 0 [] 0),(5,.int .i64 0),(6,.sl n6 A6),(7,.sl n7 A7),(8,.pref 1 [] 0),(9,.pref 2 [] 0),(10,.pref 3 [] 0),(11,.fn 65 [.pref 1 [] 0,.pref 2 [] 0,.pref 3 [] 0]),(12,.int .i64 i),(13,.ptr [.int .i64 v.1,.int .i64 v.2] 0),(17,.ptr [.int .i64 (one.getD j default).f,.int .i64 (one.getD j default).i,.int .i64 (one.getD j default).o,.int .i64 (one.getD j default).t] 0),(96,.sl one.length (recs aC one)),(97,.int .i64 one.length),(98,.int .i64 j),(119,.sl two.length (recs aC two)),(120,.int .i64 two.length),(121,.int .i64 0)],[(0,.optr [.nils,.nils]),(1,jd sj.1),(2,je sj.1),(3,iY F sj.2)],4⟩ rfl ?_
   refine Tu A2 A3 A6 A7 n6 n7 i v (one.getD j default) j one.length (recs aC one) two F sj h2 (by omega) (by omega) hF ?_
   repeat (first|refine ag ?_|refine af ?_|refine bz ?_|refine ae ?_)
   exact dC [2,3,4,5,6,7,8,9,10,11,12,13,96,97,98] (j+1) hjl (by omega) (by simp only [hns];rfl)
 ·obtain rfl:j=one.length:=by omega
  rw [List.take_length]
  repeat (first|refine af ?_|refine az ?_|refine bF (by rfl) ?_|refine au ?_|refine ah ?_|refine ae ?_)
  exact gp [2,3,4,5,6,7,8,9,10,11,12,13] _ rfl h
end Go.Proofs.Ytlbdmpjnmfmnfaa
