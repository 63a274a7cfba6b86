import Derived.Test.YtlbdmpjnmfmnfaaFt3
section
set_option linter.unusedSimpArgs false
set_option linter.unusedVariables false
namespace Go.Proofs.Ytlbdmpjnmfmnfaa
open Go.RowKit Go.HL Go.FS
set_option maxHeartbeats 8000000 in
theorem SV {k:List HI} [hp:Plain k] {rs:List Nat} {Kp:HV->Prop} {x:HCode} (A2 A3 A6 A7:List HV) (n6 n7 i:Nat) (v:Nd) (two:List A) (F:List Bool) (st:CS) (h2:two.length<=8192) (hs1:st.1.length<=50000) (hs2:st.2.length<=50000) (hF:F.length<=50000)
  (h:hx Try.prog (.c x::k) (finish rs Kp) ⟨[(2,.ptr A2 0),(3,.ptr A3 0),(4,.pref 0 [] 0),(5,.int .i64 0),(6,.sl n6 A6),(7,.sl n7 A7),(8,.pref 1 [] 0),(9,.pref 2 [] 0),(10,.pref 3 [] 0),(11,.fn 65 [.pref 1 [] 0,.pref 2 [] 0,.pref 3 [] 0]),(12,.int .i64 i),(13,.ptr [.int .i64 v.1,.int .i64 v.2] 0)],[(0,.optr [.nils,.nils]),(1,jH (iQ i st (stA two v)).1),(2,jG (iQ i st (stA two v)).1),(3,jr F (iQ i st (stA two v)).2)],4⟩) :
  hx Try.prog (.c (.loop Pq)::.b 2::.c x::k) (finish rs Kp) ⟨[(2,.ptr A2 0),(3,.ptr A3 0),(4,.pref 0 [] 0),(5,.int .i64 0),(6,.sl n6 A6),(7,.sl n7 A7),(8,.pref 1 [] 0),(9,.pref 2 [] 0),(10,.pref 3 [] 0),(11,.fn 65 [.pref 1 [] 0,.pref 2 [] 0,.pref 3 [] 0]),(12,.int .i64 i),(13,.ptr [.int .i64 v.1,.int .i64 v.2] 0),(72,.sl two.length (recs aC two)),(73,.int .i64 two.length),(74,.int .i64 0)],[(0,.optr [.nils,.nils]),(1,jH st.1),(2,jG st.1),(3,jr F st.2)],4⟩:=by
 refine bQ [2,3,4,5,6,7,8,9,10,11,12,13,72,73,74] (fun j:Nat=>j<=two.length)
  (fun j=>⟨[(2,.ptr A2 0),(3,.ptr A3 0),(4,.pref 0 [] 0),(5,.int .i64 0),(6,.sl n6 A6),(7,.sl n7 A7),(8,.pref 1 [] 0),(9,.pref 2 [] 0),(10,.pref 3 [] 0),(11,.fn 65 [.pref 1 [] 0,.pref 2 [] 0,.pref 3 [] 0]),(12,.int .i64 i),(13,.ptr [.int .i64 v.1,.int .i64 v.2] 0),(72,.sl two.length (recs aC two)),(73,.int .i64 two.length),(74,.int .i64 j)],[(0,.optr [.nils,.nils]),(1,jH (iQ i st (stA (two.take j) v)).1),(2,jG (iQ i st (stA (two.take j) v)).1),(3,jr F (iQ i st (stA (two.take j) v)).2)],4⟩)
  (fun j=>two.length - j) 0 (by omega) rfl ?_
 intro j hj
 have hst:=nM (i:=i) (l:=stA (two.take j) v) (st:=st)
 have hsl:=Fh (two:=two.take j) (v:=v)
 rw [List.length_take] at hsl
 by_cases hjl:j<two.length
 ·have htk:=JX (v:=v) hjl
  have hap:=fun m=>tV (i:=i) (st:=st) (l:=stA (two.take j) v) (m:=m)
  obtain ⟨sj,hsj⟩:∃sj,iQ i st (stA (two.take j) v)=sj:=⟨_,rfl⟩
  rw [hsj] at hst hap ⊢
  by_cases hb:(two.getD j default).i = -1
  ·rw [if_pos hb] at htk
   have hns:=hap [(-1,(two.getD j default).o,(v.1,(two.getD j default).t))]
   rw [<- htk,wX] at hns
   have hstep:=Af i (-1) (two.getD j default).o v.1 (two.getD j default).t sj.1 F sj.2 (by omega) (by omega) (by omega)
   repeat (first|refine ah ?_|refine aJ ?_|refine dD ?_|refine aS ?_|refine af ?_|refine ay ?_|refine bC ?_|refine ak ?_|refine au ?_|refine ae ?_|refine aA ?_|refine aH ?_|refine aY ?_|refine aF ?_|refine bz ?_|refine dn ?_|refine bU dN ?_|refine dB ?_)
   refine xH [4,5,6] [1,2,3] (by rfl) (by (try simp only [List.map_cons,List.map_nil,List.cons_append,List.nil_append]);repeat (first|(apply VJ;· exact aQ)|rfl)) Et Tn rfl (by decide) (hstep) ?_
   rintro _ _ ⟨rfl,rfl⟩ -
   refine ⟨_,_,_,_,_,gY,(by decide),GZ,?_⟩
   repeat (first|refine ah ?_|refine af ?_|refine bf ?_|refine ae ?_|refine dH ?_)
   exact bZ [2,3,4,5,6,7,8,9,10,11,12,13,72,73,74] (j+1) hjl (by omega) (by simp only [hns];rfl)
  ·rw [if_neg hb,List.append_nil] at htk
   repeat (first|refine ah ?_|refine aJ ?_|refine aS ?_|refine af ?_|refine ay ?_|refine bC ?_|refine bf ?_|refine ak ?_|refine ax ?_|refine au ?_|refine ae ?_|refine aA ?_|refine dH ?_|refine aH ?_|refine aF ?_|refine bz ?_|refine dn ?_|refine bU dN ?_)
   exact bZ [2,3,4,5,6,7,8,9,10,11,12,13,72,73,74] (j+1) hjl (by omega) (by simp only [htk,hsj];rfl)
 ·obtain rfl:j=two.length:=by omega
  rw [List.take_length]
  repeat (first|refine af ?_|refine ay ?_|refine bD (by rfl) ?_|refine ax ?_|refine au ?_|refine ae ?_)
  exact iO [2,3,4,5,6,7,8,9,10,11,12,13] _ rfl h
set_option maxHeartbeats 8000000 in
theorem P8 {k:List HI} [hp:Plain k] {rs:List Nat} {Kp:HV->Prop} {x:HCode} (A2 A3 A6 A7:List HV) (n6 n7 i:Nat) (v:Nd) (a:A) (j1 m1:Nat) (R1:List HV) (two:List A) (F:List Bool) (st:CS) (h2:two.length<=8192) (hs1:st.1.length<=90000000) (hs2:st.2.length<=90000000) (hF:F.length<=50000)
  (h:hx Try.prog (.c x::k) (finish rs Kp) ⟨[(2,.ptr A2 0),(3,.ptr A3 0),(4,.pref 0 [] 0),(5,.int .i64 0),(6,.sl n6 A6),(7,.sl n7 A7),(8,.pref 1 [] 0),(9,.pref 2 [] 0),(10,.pref 3 [] 0),(11,.fn 65 [.pref 1 [] 0,.pref 2 [] 0,.pref 3 [] 0]),(12,.int .i64 i),(13,.ptr [.int .i64 v.1,.int .i64 v.2] 0),(17,.ptr [.int .i64 a.f,.int .i64 a.i,.int .i64 a.o,.int .i64 a.t] 0),(96,.sl m1 R1),(97,.int .i64 m1),(98,.int .i64 j1)],[(0,.optr [.nils,.nils]),(1,jH (iQ i st (stB a two)).1),(2,jG (iQ i st (stB a two)).1),(3,jr F (iQ i st (stB a two)).2)],4⟩) :
  hx Try.prog (.c (.loop JG)::.b 6::.b 5::.c x::k) (finish rs Kp) ⟨[(2,.ptr A2 0),(3,.ptr A3 0),(4,.pref 0 [] 0),(5,.int .i64 0),(6,.sl n6 A6),(7,.sl n7 A7),(8,.pref 1 [] 0),(9,.pref 2 [] 0),(10,.pref 3 [] 0),(11,.fn 65 [.pref 1 [] 0,.pref 2 [] 0,.pref 3 [] 0]),(12,.int .i64 i),(13,.ptr [.int .i64 v.1,.int .i64 v.2] 0),(17,.ptr [.int .i64 a.f,.int .i64 a.i,.int .i64 a.o,.int .i64 a.t] 0),(96,.sl m1 R1),(97,.int .i64 m1),(98,.int .i64 j1),(119,.sl two.length (recs aC two)),(120,.int .i64 two.length),(121,.int .i64 0)],[(0,.optr [.nils,.nils]),(1,jH st.1),(2,jG st.1),(3,jr F st.2)],4⟩:=by
 refine bQ [2,3,4,5,6,7,8,9,10,11,12,13,17,96,97,98,119,120,121] (fun j:Nat=>j<=two.length)
  (fun j=>⟨[(2,.ptr A2 0),(3,.ptr A3 0),(4,.pref 0 [] 0),(5,.int .i64 0),(6,.sl n6 A6),(7,.sl n7 A7),(8,.pref 1 [] 0),(9,.pref 2 [] 0),(10,.pref 3 [] 0),(11,.fn 65 [.pref 1 [] 0,.pref 2 [] 0,.pref 3 [] 0]),(12,.int .i64 i),(13,.ptr [.int .i64 v.1,.int .i64 v.2] 0),(17,.ptr [.int .i64 a.f,.int .i64 a.i,.int .i64 a.o,.int .i64 a.t] 0),(96,.sl m1 R1),(97,.int .i64 m1),(98,.int .i64 j1),(119,.sl two.length (recs aC two)),(120,.int .i64 two.length),(121,.int .i64 j)],[(0,.optr [.nils,.nils]),(1,jH (iQ i st (stB a (two.take j))).1),(2,jG (iQ i st (stB a (two.take j))).1),(3,jr F (iQ i st (stB a (two.take j))).2)],4⟩)
  (fun j=>two.length - j) 0 (by omega) rfl ?_
 intro j hj
 have hst:=nM (i:=i) (l:=stB a (two.take j)) (st:=st)
 have hsl:=Fq (a:=a) (two:=two.take j)
 rw [List.length_take] at hsl
 by_cases hjl:j<two.length
 ·have htk:=JR (a:=a) hjl
  have hap:=fun m=>tV (i:=i) (st:=st) (l:=stB a (two.take j)) (m:=m)
  obtain ⟨sj,hsj⟩:∃sj,iQ i st (stB a (two.take j))=sj:=⟨_,rfl⟩
  rw [hsj] at hst hap ⊢
  by_cases hb:(two.getD j default).i=a.o
  ·rw [if_pos hb] at htk
   have hns:=hap [(a.i,(two.getD j default).o,(a.t,(two.getD j default).t))]
   rw [<- htk,wX] at hns
   have hstep:=Af i a.i (two.getD j default).o a.t (two.getD j default).t sj.1 F sj.2 (by omega) (by omega) (by omega)
   repeat (first|refine ah ?_|refine aJ ?_|refine dD ?_|refine aS ?_|refine af ?_|refine ay ?_|refine bC ?_|refine ak ?_|refine au ?_|refine ae ?_|refine aA ?_|refine aH ?_|refine aY ?_|refine aF ?_|refine bz ?_|refine dn ?_|refine bU dN ?_|refine dB ?_)
   refine xH [4,5,6] [1,2,3] (by rfl) (by (try simp only [List.map_cons,List.map_nil,List.cons_append,List.nil_append]);repeat (first|(apply VJ;· exact aQ)|rfl)) Et Tn rfl (by decide) (hstep) ?_
   rintro _ _ ⟨rfl,rfl⟩ -
   refine ⟨_,_,_,_,_,gY,(by decide),GZ,?_⟩
   repeat (first|refine ah ?_|refine af ?_|refine bf ?_|refine ae ?_|refine dH ?_)
   exact bZ [2,3,4,5,6,7,8,9,10,11,12,13,17,96,97,98,119,120,121] (j+1) hjl (by omega) (by simp only [hns];rfl)
  ·rw [if_neg hb,List.append_nil] at htk
   repeat (first|refine ah ?_|refine aJ ?_|refine dD ?_|refine aS ?_|refine af ?_|refine ay ?_|refine bC ?_|refine bf ?_|refine ak ?_|refine ax ?_|refine au ?_|refine ae ?_|refine aA ?_|refine dH ?_|refine aH ?_|refine aY ?_|refine aF ?_|refine bz ?_|refine dn ?_|refine bU dN ?_)
   exact bZ [2,3,4,5,6,7,8,9,10,11,12,13,17,96,97,98,119,120,121] (j+1) hjl (by omega) (by simp only [htk,hsj];rfl)
 ·obtain rfl:j=two.length:=by omega
  rw [List.take_length]
  repeat (first|refine af ?_|refine ay ?_|refine bD (by rfl) ?_|refine ax ?_|refine au ?_|refine ae ?_|refine dH ?_)
  exact iO [2,3,4,5,6,7,8,9,10,11,12,13,17,96,97,98] _ rfl h
end Go.Proofs.Ytlbdmpjnmfmnfaa
end
section
set_option linter.unusedSimpArgs false
set_option linter.unusedVariables false
namespace Go.Proofs.Ytlbdmpjnmfmnfaa
open Go.RowKit Go.HL Go.FS
set_option maxHeartbeats 8000000 in
theorem Qr {k:List HI} [hp:Plain k] {rs:List Nat} {Kp:HV->Prop} {x:HCode} (A2 A3 A6 A7:List HV) (n6 n7 i:Nat) (v:Nd) (one two:List A) (F:List Bool) (st:CS) (h1:one.length<=8192) (h2:two.length<=8192) (hs1:st.1.length<=50000) (hs2:st.2.length<=50000) (hF:F.length<=50000) (hv1:0<=v.2) (hv2:v.2<n7) (hl7:A7.length=n7) (h7:A7.getD v.2.toNat .dead=.sl two.length (recs aC two))
  (h:hx Try.prog (.c x::k) (finish rs Kp) ⟨[(2,.ptr A2 0),(3,.ptr A3 0),(4,.pref 0 [] 0),(5,.int .i64 0),(6,.sl n6 A6),(7,.sl n7 A7),(8,.pref 1 [] 0),(9,.pref 2 [] 0),(10,.pref 3 [] 0),(11,.fn 65 [.pref 1 [] 0,.pref 2 [] 0,.pref 3 [] 0]),(12,.int .i64 i),(13,.ptr [.int .i64 v.1,.int .i64 v.2] 0)],[(0,.optr [.nils,.nils]),(1,jH (iQ i st (one.flatMap fun a=>xK a two v)).1),(2,jG (iQ i st (one.flatMap fun a=>xK a two v)).1),(3,jr F (iQ i st (one.flatMap fun a=>xK a two v)).2)],4⟩) :
  hx Try.prog (.c (.loop L9)::.b 4::.c x::k) (finish rs Kp) ⟨[(2,.ptr A2 0),(3,.ptr A3 0),(4,.pref 0 [] 0),(5,.int .i64 0),(6,.sl n6 A6),(7,.sl n7 A7),(8,.pref 1 [] 0),(9,.pref 2 [] 0),(10,.pref 3 [] 0),(11,.fn 65 [.pref 1 [] 0,.pref 2 [] 0,.pref 3 [] 0]),(12,.int .i64 i),(13,.ptr [.int .i64 v.1,.int .i64 v.2] 0),(96,.sl one.length (recs aC one)),(97,.int .i64 one.length),(98,.int .i64 0)],[(0,.optr [.nils,.nils]),(1,jH st.1),(2,jG st.1),(3,jr F st.2)],4⟩:=by
 refine bQ [2,3,4,5,6,7,8,9,10,11,12,13,96,97,98] (fun j:Nat=>j<=one.length)
  (fun j=>⟨[(2,.ptr A2 0),(3,.ptr A3 0),(4,.pref 0 [] 0),(5,.int .i64 0),(6,.sl n6 A6),(7,.sl n7 A7),(8,.pref 1 [] 0),(9,.pref 2 [] 0),(10,.pref 3 [] 0),(11,.fn 65 [.pref 1 [] 0,.pref 2 [] 0,.pref 3 [] 0]),(12,.int .i64 i),(13,.ptr [.int .i64 v.1,.int .i64 v.2] 0),(96,.sl one.length (recs aC one)),(97,.int .i64 one.length),(98,.int .i64 j)],[(0,.optr [.nils,.nils]),(1,jH (iQ i st ((one.take j).flatMap fun a=>xK a two v)).1),(2,jG (iQ i st ((one.take j).flatMap fun a=>xK a two v)).1),(3,jr F (iQ i st ((one.take j).flatMap fun a=>xK a two v)).2)],4⟩)
  (fun j=>one.length - j) 0 (by omega) rfl ?_
 intro j hj
 have hst:=nM (i:=i) (l:=((one.take j).flatMap fun a=>xK a two v)) (st:=st)
 have hsl:=FY (one:=one.take j) (two:=two) (v:=v)
 rw [List.length_take] at hsl
 have hsm:min j one.length*(two.length+1)<=8192*8193:=Nat.mul_le_mul (by omega) (by omega)
 by_cases hjl:j<one.length
 ·have htk:=JI (two:=two) (v:=v) hjl
  have hap:=fun m=>tV (i:=i) (st:=st) (l:=((one.take j).flatMap fun a=>xK a two v)) (m:=m)
  obtain ⟨sj,hsj⟩:∃sj,iQ i st ((one.take j).flatMap fun a=>xK a two v)=sj:=⟨_,rfl⟩
  rw [hsj] at hst hap ⊢
  by_cases hb:(one.getD j default).o = -1
  ·rw [xK,if_pos hb] at htk
   have hns:=hap [((one.getD j default).i,-1,((one.getD j default).t,v.2))]
   rw [<- htk,wX] at hns
   have hstep:=Af i (one.getD j default).i (-1) (one.getD j default).t v.2 sj.1 F sj.2 (by omega) (by omega) (by omega)
   repeat (first|refine ah ?_|refine aJ ?_|refine dD ?_|refine aS ?_|refine af ?_|refine ay ?_|refine bC ?_|refine ak ?_|refine au ?_|refine ae ?_|refine aA ?_|refine aH ?_|refine aY ?_|refine aF ?_|refine bz ?_|refine dn ?_|refine bU dN ?_|refine dB ?_)
   refine xH [4,5,6] [1,2,3] (by rfl) (by (try simp only [List.map_cons,List.map_nil,List.cons_append,List.nil_append]);repeat (first|(apply VJ;· exact aQ)|rfl)) Et Tn rfl (by decide) (hstep) ?_
   rintro _ _ ⟨rfl,rfl⟩ -
   refine ⟨_,_,_,_,_,gY,(by decide),GZ,?_⟩
   repeat (first|refine ah ?_|refine af ?_|refine bf ?_|refine bD (by rfl) ?_|refine ae ?_)
   exact bZ [2,3,4,5,6,7,8,9,10,11,12,13,96,97,98] (j+1) hjl (by omega) (by simp only [hns];rfl)
  ·rw [xK,if_neg hb] at htk
   have hns:=hap (stB (one.getD j default) two)
   rw [<- htk] at hns
   repeat (first|refine ah ?_|refine aJ ?_|refine dA (by rfl) aG (by (try simp (disch:=omega) only [go_sem,h7]);try rfl) ?_|refine dK (by rfl) aW (by (try simp (disch:=omega) only [go_sem,reduceIte,Nat.reduceEqDiff,Nat.reduceAdd,Nat.reduceMul,h7]);try rfl) aG (by (try simp (disch:=omega) only [go_sem,h7]);try rfl) aQ ?_|refine af ?_|refine ay ?_|refine bC ?_|refine aB ?_|refine ak ?_|refine ax ?_|refine au ?_|refine ae ?_|refine aA ?_|refine aH ?_|refine aY ?_|refine aF ?_|refine gB (by rfl) aG (by (try simp (disch:=omega) only [go_sem,reduceIte,Nat.reduceEqDiff,Nat.reduceAdd,Nat.reduceMul,h7]);try rfl) ?_|refine kL (by rfl) aQ aI fH (by rfl) (by decide) aW aI aG (by (try simp (disch:=omega) only [go_sem,h7]);try rfl) aI ?_|refine bU dN ?_)
   refine bF 52 [2,3,4,5,6,7,8,9,10,11,12,13,17,96,97,98,119,120,121] ⟨[(2,.ptr A2 0),(3,.ptr A3 0),(4,.pref 0 [] 0),(5,.int .i64 0),(6,.sl n6 A6),(7,.sl n7 A7),(8,.pref 1 [] 0),(9,.pref 2 [] 0),(10,.pref 3 [] 0),(11,.fn 65 [.pref 1 [] 0,.pref 2 [] 0,.pref 3 [] 0]),(12,.int .i64 i),(13,.ptr [.int .i64 v.1,.int .i64 v.2] 0),(17,.ptr [.int .i64 (one.getD j default).f,.int .i64 (one.getD j default).i,.int .i64 (one.getD j default).o,.int .i64 (one.getD j default).t] 0),(96,.sl one.length (recs aC one)),(97,.int .i64 one.length),(98,.int .i64 j),(119,.sl two.length (recs aC two)),(120,.int .i64 two.length),(121,.int .i64 0)],[(0,.optr [.nils,.nils]),(1,jH sj.1),(2,jG sj.1),(3,jr F sj.2)],4⟩ rfl ?_
   refine P8 A2 A3 A6 A7 n6 n7 i v (one.getD j default) j one.length (recs aC one) two F sj h2 (by omega) (by omega) hF ?_
   repeat (first|refine ah ?_|refine af ?_|refine bf ?_|refine ae ?_)
   exact bZ [2,3,4,5,6,7,8,9,10,11,12,13,96,97,98] (j+1) hjl (by omega) (by simp only [hns];rfl)
 ·obtain rfl:j=one.length:=by omega
  rw [List.take_length]
  repeat (first|refine af ?_|refine ay ?_|refine bD (by rfl) ?_|refine ax ?_|refine au ?_|refine ae ?_)
  exact iO [2,3,4,5,6,7,8,9,10,11,12,13] _ rfl h
end Go.Proofs.Ytlbdmpjnmfmnfaa
end
