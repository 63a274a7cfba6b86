import Derived.Test.YtlbdmpjnmfmnfaaFt5
set_option linter.unusedSimpArgs false
set_option linter.unusedVariables false
namespace Go.Proofs.Ytlbdmpjnmfmnfaa
open Go.RowKit Go.HL Go.FS
set_option maxHeartbeats 8000000 in
theorem NY {k:List HI} [hp:Plain k] {rs:List Nat} {Kp:HV->Prop} {x:HCode} (A2 A3 A6 A7:List HV) (n6 n7 i:Nat) (v:Nd) (one two:List A) (F:List Bool) (st:CS) (h1:one.length<=8192) (h2:two.length<=8192) (hs1:st.1.length<=50000) (hs2:st.2.length<=50000) (hF:F.length<=50000) (hv1:0<=v.2) (hv2:v.2<n7) (hl7:A7.length=n7) (h7:A7.getD v.2.toNat .dead=.sl two.length (recs aC two))
  (h:hx Try.prog (.c x::k) (finish rs Kp) ⟨[(2,.ptr A2 0),(3,.ptr A3 0),(4,.pref 0 [] 0),(5,.int .i64 0),(6,.sl n6 A6),(7,.sl n7 A7),(8,.pref 1 [] 0),(9,.pref 2 [] 0),(10,.pref 3 [] 0),(11,.fn 65 [.pref 1 [] 0,.pref 2 [] 0,.pref 3 [] 0]),(12,.int .i64 i),(13,.ptr [.int .i64 v.1,.int .i64 v.2] 0)],[(0,.optr [.nils,.nils]),(1,iW (ig i st (one.flatMap fun a=>wQ a two v)).1),(2,iV (ig i st (one.flatMap fun a=>wQ a two v)).1),(3,iQ F (ig i st (one.flatMap fun a=>wQ a two v)).2)],4⟩) :
  hx Try.prog (.c (.loop JZ)::.b 4::.c x::k) (finish rs Kp) ⟨[(2,.ptr A2 0),(3,.ptr A3 0),(4,.pref 0 [] 0),(5,.int .i64 0),(6,.sl n6 A6),(7,.sl n7 A7),(8,.pref 1 [] 0),(9,.pref 2 [] 0),(10,.pref 3 [] 0),(11,.fn 65 [.pref 1 [] 0,.pref 2 [] 0,.pref 3 [] 0]),(12,.int .i64 i),(13,.ptr [.int .i64 v.1,.int .i64 v.2] 0),(96,.sl one.length (recs aC one)),(97,.int .i64 one.length),(98,.int .i64 0)],[(0,.optr [.nils,.nils]),(1,iW st.1),(2,iV st.1),(3,iQ F st.2)],4⟩:=by
 refine cu [2,3,4,5,6,7,8,9,10,11,12,13,96,97,98] (fun j:Nat=>j<=one.length)
  (fun j=>⟨[(2,.ptr A2 0),(3,.ptr A3 0),(4,.pref 0 [] 0),(5,.int .i64 0),(6,.sl n6 A6),(7,.sl n7 A7),(8,.pref 1 [] 0),(9,.pref 2 [] 0),(10,.pref 3 [] 0),(11,.fn 65 [.pref 1 [] 0,.pref 2 [] 0,.pref 3 [] 0]),(12,.int .i64 i),(13,.ptr [.int .i64 v.1,.int .i64 v.2] 0),(96,.sl one.length (recs aC one)),(97,.int .i64 one.length),(98,.int .i64 j)],[(0,.optr [.nils,.nils]),(1,iW (ig i st ((one.take j).flatMap fun a=>wQ a two v)).1),(2,iV (ig i st ((one.take j).flatMap fun a=>wQ a two v)).1),(3,iQ F (ig i st ((one.take j).flatMap fun a=>wQ a two v)).2)],4⟩)
  (fun j=>one.length - j) 0 (by omega) rfl ?_
 intro j hj
 have hst:=mJ (i:=i) (l:=((one.take j).flatMap fun a=>wQ a two v)) (st:=st)
 have hsl:=Eu (one:=one.take j) (two:=two) (v:=v)
 rw [List.length_take] at hsl
 have hsm:min j one.length*(two.length+1)<=8192*8193:=Nat.mul_le_mul (by omega) (by omega)
 by_cases hjl:j<one.length
 ·have htk:=IV (two:=two) (v:=v) hjl
  have hap:=fun m=>rM (i:=i) (st:=st) (l:=((one.take j).flatMap fun a=>wQ a two v)) (m:=m)
  obtain ⟨sj,hsj⟩:∃sj,ig i st ((one.take j).flatMap fun a=>wQ a two v)=sj:=⟨_,rfl⟩
  rw [hsj] at hst hap ⊢
  by_cases hb:(one.getD j default).o = -1
  ·rw [wQ,if_pos hb] at htk
   have hns:=hap [((one.getD j default).i,-1,((one.getD j default).t,v.2))]
   rw [<- htk,vJ] at hns
   have hstep:=yP i (one.getD j default).i (-1) (one.getD j default).t v.2 sj.1 F sj.2 (by omega) (by omega) (by omega)
   repeat (first|refine ag ?_|refine aZ ?_|refine dP ?_|refine aV ?_|refine af ?_|refine az ?_|refine bQ ?_|refine au ?_|refine ah ?_|refine ae ?_|refine aH ?_|refine aF ?_|refine dw ?_|refine aJ ?_|refine bG ?_|refine dG ?_|refine bP dI ?_|refine cZ ?_)
   refine vO [4,5,6] [1,2,3] (by rfl) (by (try simp only [List.map_cons,List.map_nil,List.cons_append,List.nil_append]);repeat (first|(apply Q7;· exact aO)|rfl)) BZ Ol rfl (by decide) (hstep) ?_
   rintro _ _ ⟨rfl,rfl⟩ -
   refine ⟨_,_,_,_,_,gq,(by decide),Hg,?_⟩
   repeat (first|refine ag ?_|refine af ?_|refine bu ?_|refine bK (by rfl) ?_|refine ae ?_)
   exact dm [2,3,4,5,6,7,8,9,10,11,12,13,96,97,98] (j+1) hjl (by omega) (by simp only [hns];rfl)
  ·rw [wQ,if_neg hb] at htk
   have hns:=hap (stB (one.getD j default) two)
   rw [<- htk] at hns
   repeat (first|refine ag ?_|refine aZ ?_|refine iL (by rfl) aT (by (try simp (disch:=omega) only [go_sem,h7]);try rfl) ?_|refine iq (by rfl) bH (by (try simp (disch:=omega) only [go_sem,reduceIte,Nat.reduceEqDiff,Nat.reduceAdd,Nat.reduceMul,h7]);try rfl) aT (by (try simp (disch:=omega) only [go_sem,h7]);try rfl) aO ?_|refine af ?_|refine az ?_|refine bQ ?_|refine bY (by rfl) ?_|refine au ?_|refine ak ?_|refine ah ?_|refine ae ?_|refine aH ?_|refine aF ?_|refine dw ?_|refine aJ ?_|refine pG (by rfl) aT (by (try simp (disch:=omega) only [go_sem,reduceIte,Nat.reduceEqDiff,Nat.reduceAdd,Nat.reduceMul,h7]);try rfl) ?_|refine yV (by rfl) aO aQ iH (by rfl) (by decide) bH aQ aT (by (try simp (disch:=omega) only [go_sem,h7]);try rfl) aQ ?_|refine bP dI ?_)
   refine bT 52 [2,3,4,5,6,7,8,9,10,11,12,13,17,96,97,98,119,120,121] ⟨[(2,.ptr A2 0),(3,.ptr A3 0),(4,.pref 0 [] 0),(5,.int .i64 0),(6,.sl n6 A6),(7,.sl n7 A7),(8,.pref 1 [] 0),(9,.pref 2 [] 0),(10,.pref 3 [] 0),(11,.fn 65 [.pref 1 [] 0,.pref 2 [] 0,.pref 3 [] 0]),(12,.int .i64 i),(13,.ptr [.int .i64 v.1,.int .i64 v.2] 0),(17,.ptr [.int .i64 (one.getD j default).f,.int .i64 (one.getD j default).i,.int .i64 (one.getD j default).o,.int .i64 (one.getD j default).t] 0),(96,.sl one.length (recs aC one)),(97,.int .i64 one.length),(98,.int .i64 j),(119,.sl two.length (recs aC two)),(120,.int .i64 two.length),(121,.int .i64 0)],[(0,.optr [.nils,.nils]),(1,iW sj.1),(2,iV sj.1),(3,iQ F sj.2)],4⟩ rfl ?_
   refine QD A2 A3 A6 A7 n6 n7 i v (one.getD j default) j one.length (recs aC one) two F sj h2 (by omega) (by omega) hF ?_
   repeat (first|refine ag ?_|refine af ?_|refine bu ?_|refine ae ?_)
   exact dm [2,3,4,5,6,7,8,9,10,11,12,13,96,97,98] (j+1) hjl (by omega) (by simp only [hns];rfl)
 ·obtain rfl:j=one.length:=by omega
  rw [List.take_length]
  repeat (first|refine af ?_|refine az ?_|refine bK (by rfl) ?_|refine ak ?_|refine ah ?_|refine ae ?_)
  exact gY [2,3,4,5,6,7,8,9,10,11,12,13] _ rfl h
end Go.Proofs.Ytlbdmpjnmfmnfaa
