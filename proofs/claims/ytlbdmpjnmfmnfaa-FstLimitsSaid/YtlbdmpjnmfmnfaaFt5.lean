import Derived.Test.YtlbdmpjnmfmnfaaFt3
set_option linter.unusedSimpArgs false
set_option linter.unusedVariables false
namespace Go.Proofs.Ytlbdmpjnmfmnfaa
open Go.RowKit Go.HL Go.FS
set_option maxHeartbeats 8000000 in
theorem SX {k:List HI} [hp:Plain k] {rs:List Nat} {Kp:HV->Prop} {x:HCode} (A2 A3 A6 A7:List HV) (n6 n7 i:Nat) (v:Nd) (two:List A) (F:List Bool) (st:CS) (h2:two.length<=8192) (hs1:st.1.length<=50000) (hs2:st.2.length<=50000) (hF:F.length<=50000)
  (h:hx Try.prog (.c x::k) (finish rs Kp) ⟨[(2,.ptr A2 0),(3,.ptr A3 0),(4,.pref 0 [] 0),(5,.int .i64 0),(6,.sl n6 A6),(7,.sl n7 A7),(8,.pref 1 [] 0),(9,.pref 2 [] 0),(10,.pref 3 [] 0),(11,.fn 65 [.pref 1 [] 0,.pref 2 [] 0,.pref 3 [] 0]),(12,.int .i64 i),(13,.ptr [.int .i64 v.1,.int .i64 v.2] 0)],[(0,.optr [.nils,.nils]),(1,jD (gG i st (stA two v)).1),(2,jB (gG i st (stA two v)).1),(3,je F (gG i st (stA two v)).2)],4⟩) :
  hx Try.prog (.c (.loop QA)::.b 2::.c x::k) (finish rs Kp) ⟨[(2,.ptr A2 0),(3,.ptr A3 0),(4,.pref 0 [] 0),(5,.int .i64 0),(6,.sl n6 A6),(7,.sl n7 A7),(8,.pref 1 [] 0),(9,.pref 2 [] 0),(10,.pref 3 [] 0),(11,.fn 65 [.pref 1 [] 0,.pref 2 [] 0,.pref 3 [] 0]),(12,.int .i64 i),(13,.ptr [.int .i64 v.1,.int .i64 v.2] 0),(72,.sl two.length (recs aC two)),(73,.int .i64 two.length),(74,.int .i64 0)],[(0,.optr [.nils,.nils]),(1,jD st.1),(2,jB st.1),(3,je F st.2)],4⟩:=by
 refine dn [2,3,4,5,6,7,8,9,10,11,12,13,72,73,74] (fun j:Nat=>j<=two.length)
  (fun j=>⟨[(2,.ptr A2 0),(3,.ptr A3 0),(4,.pref 0 [] 0),(5,.int .i64 0),(6,.sl n6 A6),(7,.sl n7 A7),(8,.pref 1 [] 0),(9,.pref 2 [] 0),(10,.pref 3 [] 0),(11,.fn 65 [.pref 1 [] 0,.pref 2 [] 0,.pref 3 [] 0]),(12,.int .i64 i),(13,.ptr [.int .i64 v.1,.int .i64 v.2] 0),(72,.sl two.length (recs aC two)),(73,.int .i64 two.length),(74,.int .i64 j)],[(0,.optr [.nils,.nils]),(1,jD (gG i st (stA (two.take j) v)).1),(2,jB (gG i st (stA (two.take j) v)).1),(3,je F (gG i st (stA (two.take j) v)).2)],4⟩)
  (fun j=>two.length - j) 0 (by omega) rfl ?_
 intro j hj
 have hst:=mY (i:=i) (l:=stA (two.take j) v) (st:=st)
 have hsl:=Bo (two:=two.take j) (v:=v)
 rw [List.length_take] at hsl
 by_cases hjl:j<two.length
 ·have htk:=MB (v:=v) hjl
  have hap:=fun m=>uk (i:=i) (st:=st) (l:=stA (two.take j) v) (m:=m)
  obtain ⟨sj,hsj⟩:∃sj,gG i st (stA (two.take j) v)=sj:=⟨_,rfl⟩
  rw [hsj] at hst hap ⊢
  by_cases hb:(two.getD j default).i = -1
  ·rw [if_pos hb] at htk
   have hns:=hap [(-1,(two.getD j default).o,(v.1,(two.getD j default).t))]
   rw [<- htk,uh] at hns
   have hstep:=AP i (-1) (two.getD j default).o v.1 (two.getD j default).t sj.1 F sj.2 (by omega) (by omega) (by omega)
   repeat (first|refine ah ?_|refine bu ?_|refine dP ?_|refine aW ?_|refine af ?_|refine aF ?_|refine dV ?_|refine ax ?_|refine ak ?_|refine ae ?_|refine aK ?_|refine aI ?_|refine dh ?_|refine aH ?_|refine bG ?_|refine dG ?_|refine bI dZ ?_|refine bY ?_)
   refine wQ [4,5,6] [1,2,3] (by rfl) (by (try simp only [List.map_cons,List.map_nil,List.cons_append,List.nil_append]);repeat (first|(apply Vb;· exact aJ)|rfl)) Eo RH rfl (by decide) (hstep) ?_
   rintro _ _ ⟨rfl,rfl⟩ -
   refine ⟨_,_,_,_,_,gY,(by decide),IC,?_⟩
   repeat (first|refine ah ?_|refine af ?_|refine bM ?_|refine ae ?_|refine gV ?_)
   exact dS [2,3,4,5,6,7,8,9,10,11,12,13,72,73,74] (j+1) hjl (by omega) (by simp only [hns];rfl)
  ·rw [if_neg hb,List.append_nil] at htk
   repeat (first|refine ah ?_|refine bu ?_|refine aW ?_|refine af ?_|refine aF ?_|refine dV ?_|refine bM ?_|refine ax ?_|refine au ?_|refine ak ?_|refine ae ?_|refine aK ?_|refine gV ?_|refine aI ?_|refine aH ?_|refine bG ?_|refine dG ?_|refine bI dZ ?_)
   exact dS [2,3,4,5,6,7,8,9,10,11,12,13,72,73,74] (j+1) hjl (by omega) (by simp only [htk,hsj];rfl)
 ·obtain rfl:j=two.length:=by omega
  rw [List.take_length]
  repeat (first|refine af ?_|refine aF ?_|refine bZ (by rfl) ?_|refine au ?_|refine ak ?_|refine ae ?_)
  exact dR [2,3,4,5,6,7,8,9,10,11,12,13] _ rfl h
set_option maxHeartbeats 8000000 in
theorem Uu {k:List HI} [hp:Plain k] {rs:List Nat} {Kp:HV->Prop} {x:HCode} (A2 A3 A6 A7:List HV) (n6 n7 i:Nat) (v:Nd) (a:A) (j1 m1:Nat) (R1:List HV) (two:List A) (F:List Bool) (st:CS) (h2:two.length<=8192) (hs1:st.1.length<=90000000) (hs2:st.2.length<=90000000) (hF:F.length<=50000)
  (h:hx Try.prog (.c x::k) (finish rs Kp) ⟨[(2,.ptr A2 0),(3,.ptr A3 0),(4,.pref 0 [] 0),(5,.int .i64 0),(6,.sl n6 A6),(7,.sl n7 A7),(8,.pref 1 [] 0),(9,.pref 2 [] 0),(10,.pref 3 [] 0),(11,.fn 65 [.pref 1 [] 0,.pref 2 [] 0,.pref 3 [] 0]),(12,.int .i64 i),(13,.ptr [.int .i64 v.1,.int .i64 v.2] 0),(17,.ptr [.int .i64 a.f,.int .i64 a.i,.int .i64 a.o,.int .i64 a.t] 0),(96,.sl m1 R1),(97,.int .i64 m1),(98,.int .i64 j1)],[(0,.optr [.nils,.nils]),(1,jD (gG i st (stB a two)).1),(2,jB (gG i st (stB a two)).1),(3,je F (gG i st (stB a two)).2)],4⟩) :
  hx Try.prog (.c (.loop Md)::.b 6::.b 5::.c x::k) (finish rs Kp) ⟨[(2,.ptr A2 0),(3,.ptr A3 0),(4,.pref 0 [] 0),(5,.int .i64 0),(6,.sl n6 A6),(7,.sl n7 A7),(8,.pref 1 [] 0),(9,.pref 2 [] 0),(10,.pref 3 [] 0),(11,.fn 65 [.pref 1 [] 0,.pref 2 [] 0,.pref 3 [] 0]),(12,.int .i64 i),(13,.ptr [.int .i64 v.1,.int .i64 v.2] 0),(17,.ptr [.int .i64 a.f,.int .i64 a.i,.int .i64 a.o,.int .i64 a.t] 0),(96,.sl m1 R1),(97,.int .i64 m1),(98,.int .i64 j1),(119,.sl two.length (recs aC two)),(120,.int .i64 two.length),(121,.int .i64 0)],[(0,.optr [.nils,.nils]),(1,jD st.1),(2,jB st.1),(3,je F st.2)],4⟩:=by
 refine dn [2,3,4,5,6,7,8,9,10,11,12,13,17,96,97,98,119,120,121] (fun j:Nat=>j<=two.length)
  (fun j=>⟨[(2,.ptr A2 0),(3,.ptr A3 0),(4,.pref 0 [] 0),(5,.int .i64 0),(6,.sl n6 A6),(7,.sl n7 A7),(8,.pref 1 [] 0),(9,.pref 2 [] 0),(10,.pref 3 [] 0),(11,.fn 65 [.pref 1 [] 0,.pref 2 [] 0,.pref 3 [] 0]),(12,.int .i64 i),(13,.ptr [.int .i64 v.1,.int .i64 v.2] 0),(17,.ptr [.int .i64 a.f,.int .i64 a.i,.int .i64 a.o,.int .i64 a.t] 0),(96,.sl m1 R1),(97,.int .i64 m1),(98,.int .i64 j1),(119,.sl two.length (recs aC two)),(120,.int .i64 two.length),(121,.int .i64 j)],[(0,.optr [.nils,.nils]),(1,jD (gG i st (stB a (two.take j))).1),(2,jB (gG i st (stB a (two.take j))).1),(3,je F (gG i st (stB a (two.take j))).2)],4⟩)
  (fun j=>two.length - j) 0 (by omega) rfl ?_
 intro j hj
 have hst:=mY (i:=i) (l:=stB a (two.take j)) (st:=st)
 have hsl:=Ha (a:=a) (two:=two.take j)
 rw [List.length_take] at hsl
 by_cases hjl:j<two.length
 ·have htk:=LV (a:=a) hjl
  have hap:=fun m=>uk (i:=i) (st:=st) (l:=stB a (two.take j)) (m:=m)
  obtain ⟨sj,hsj⟩:∃sj,gG i st (stB a (two.take j))=sj:=⟨_,rfl⟩
  rw [hsj] at hst hap ⊢
  by_cases hb:(two.getD j default).i=a.o
  ·rw [if_pos hb] at htk
   have hns:=hap [(a.i,(two.getD j default).o,(a.t,(two.getD j default).t))]
   rw [<- htk,uh] at hns
   have hstep:=AP i a.i (two.getD j default).o a.t (two.getD j default).t sj.1 F sj.2 (by omega) (by omega) (by omega)
   repeat (first|refine ah ?_|refine bu ?_|refine dP ?_|refine aW ?_|refine af ?_|refine aF ?_|refine dV ?_|refine ax ?_|refine ak ?_|refine ae ?_|refine aK ?_|refine aI ?_|refine dh ?_|refine aH ?_|refine bG ?_|refine dG ?_|refine bI dZ ?_|refine bY ?_)
   refine wQ [4,5,6] [1,2,3] (by rfl) (by (try simp only [List.map_cons,List.map_nil,List.cons_append,List.nil_append]);repeat (first|(apply Vb;· exact aJ)|rfl)) Eo RH rfl (by decide) (hstep) ?_
   rintro _ _ ⟨rfl,rfl⟩ -
   refine ⟨_,_,_,_,_,gY,(by decide),IC,?_⟩
   repeat (first|refine ah ?_|refine af ?_|refine bM ?_|refine ae ?_|refine gV ?_)
   exact dS [2,3,4,5,6,7,8,9,10,11,12,13,17,96,97,98,119,120,121] (j+1) hjl (by omega) (by simp only [hns];rfl)
  ·rw [if_neg hb,List.append_nil] at htk
   repeat (first|refine ah ?_|refine bu ?_|refine dP ?_|refine aW ?_|refine af ?_|refine aF ?_|refine dV ?_|refine bM ?_|refine ax ?_|refine au ?_|refine ak ?_|refine ae ?_|refine aK ?_|refine gV ?_|refine aI ?_|refine dh ?_|refine aH ?_|refine bG ?_|refine dG ?_|refine bI dZ ?_)
   exact dS [2,3,4,5,6,7,8,9,10,11,12,13,17,96,97,98,119,120,121] (j+1) hjl (by omega) (by simp only [htk,hsj];rfl)
 ·obtain rfl:j=two.length:=by omega
  rw [List.take_length]
  repeat (first|refine af ?_|refine aF ?_|refine bZ (by rfl) ?_|refine au ?_|refine ak ?_|refine ae ?_|refine gV ?_)
  exact dR [2,3,4,5,6,7,8,9,10,11,12,13,17,96,97,98] _ rfl h
end Go.Proofs.Ytlbdmpjnmfmnfaa
