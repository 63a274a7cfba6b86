import Derived.Test.YtlbdmpjnmfmnfaaFt3
import Derived.Test.YtlbdmpjnmfmnfaaFsB
import Derived.Test.YtlbdmpjnmfmnfaaFt2
set_option linter.unusedSimpArgs false
set_option linter.unusedVariables false
set_option maxHeartbeats 8000000
section
namespace Go.Proofs.Ytlbdmpjnmfmnfaa
open Go.RowKit Go.HL Go.FS
theorem abL {k:List HI} [hp:Plain k] {rs:List Nat} {Kp:HV->Prop} {x:HCode} (A2 A3 A6 A7:List HV) (n6 n7 i:Nat) (v:Nd) (two:List A) (F:List Bool) (st:CS) (h2:two.length<=8192) (hs1:st.1.length<=50000) (hs2:st.2.length<=50000) (hF:F.length<=50000)
  (h:hx Try.prog (.c x::k) (finish rs Kp) ⟨[(2,.ptr A2 0),(3,.ptr A3 0),(4,.pref 0 [] 0),(5,.int .i64 0),(6,.sl n6 A6),(7,.sl n7 A7),(8,.pref 1 [] 0),(9,.pref 2 [] 0),(10,.pref 3 [] 0),(11,.fn 65 [.pref 1 [] 0,.pref 2 [] 0,.pref 3 [] 0]),(12,.int .i64 i),(13,.ptr [.int .i64 v.1,.int .i64 v.2] 0)],[(0,.optr [.nils,.nils]),(1,ng (fG i st (stA two v)).1),(2,ni (fG i st (stA two v)).1),(3,lU F (fG i st (stA two v)).2)],4⟩) :
  hx Try.prog (.c (.loop abf)::.b 2::.c x::k) (finish rs Kp) ⟨[(2,.ptr A2 0),(3,.ptr A3 0),(4,.pref 0 [] 0),(5,.int .i64 0),(6,.sl n6 A6),(7,.sl n7 A7),(8,.pref 1 [] 0),(9,.pref 2 [] 0),(10,.pref 3 [] 0),(11,.fn 65 [.pref 1 [] 0,.pref 2 [] 0,.pref 3 [] 0]),(12,.int .i64 i),(13,.ptr [.int .i64 v.1,.int .i64 v.2] 0),(72,.sl two.length (recs aC two)),(73,.int .i64 two.length),(74,.int .i64 0)],[(0,.optr [.nils,.nils]),(1,ng st.1),(2,ni st.1),(3,lU F st.2)],4⟩:=by
 refine aI [2,3,4,5,6,7,8,9,10,11,12,13,72,73,74] (fun j:Nat=>j<=two.length)
  (fun j=>⟨[(2,.ptr A2 0),(3,.ptr A3 0),(4,.pref 0 [] 0),(5,.int .i64 0),(6,.sl n6 A6),(7,.sl n7 A7),(8,.pref 1 [] 0),(9,.pref 2 [] 0),(10,.pref 3 [] 0),(11,.fn 65 [.pref 1 [] 0,.pref 2 [] 0,.pref 3 [] 0]),(12,.int .i64 i),(13,.ptr [.int .i64 v.1,.int .i64 v.2] 0),(72,.sl two.length (recs aC two)),(73,.int .i64 two.length),(74,.int .i64 j)],[(0,.optr [.nils,.nils]),(1,ng (fG i st (stA (two.take j) v)).1),(2,ni (fG i st (stA (two.take j) v)).1),(3,lU F (fG i st (stA (two.take j) v)).2)],4⟩)
  (fun j=>two.length - j) 0 (by omega) rfl ?_
 intro j hj
 have hst:=qZ (i:=i) (l:=stA (two.take j) v) (st:=st)
 have hsl:=Fz (two:=two.take j) (v:=v)
 rw [dS] at hsl
 by_cases hjl:j<two.length
 ·have htk:=OY (v:=v) hjl
  have hap:=fun m=>yf (i:=i) (st:=st) (l:=stA (two.take j) v) (m:=m)
  obtain ⟨sj,hsj⟩:∃sj,fG i st (stA (two.take j) v)=sj:=⟨_,rfl⟩
  rw [hsj] at hst hap ⊢
  by_cases hb:(two.getD j default).i = -1
  ·rw [if_pos hb] at htk
   have hns:=hap [(-1,(two.getD j default).o,(v.1,(two.getD j default).t))]
   rw [<- htk,Dh] at hns
   have hstep:=Kv i (-1) (two.getD j default).o v.1 (two.getD j default).t sj.1 F sj.2 (by omega) (by omega) (by omega)
   refine zF ⟨?_⟩
   refine GR [4,5,6] [1,2,3] (by rfl) (by (try simp only [dV,pY,List.cons_append,List.nil_append]);repeat (first|(apply eL1;· exact aQ)|rfl)) KT zT7 rfl (by decide) (hstep) ?_
   rintro _ _ ⟨rfl,rfl⟩ -
   refine ⟨_,_,_,_,_,zT,(by decide),MN,?_⟩
   refine zF ⟨?_⟩
   exact aP [2,3,4,5,6,7,8,9,10,11,12,13,72,73,74] (j+1) hjl (by omega) (by simp only [hns];rfl)
  ·rw [if_neg hb,List.append_nil] at htk
   refine zF ⟨?_⟩
   exact aP [2,3,4,5,6,7,8,9,10,11,12,13,72,73,74] (j+1) hjl (by omega) (by simp only [htk,hsj];rfl)
 ·obtain rfl:j=two.length:=by omega
  rw [fK]
  refine zF ⟨?_⟩
  exact aY [2,3,4,5,6,7,8,9,10,11,12,13] _ rfl h
theorem abP {k:List HI} [hp:Plain k] {rs:List Nat} {Kp:HV->Prop} {x:HCode} (A2 A3 A6 A7:List HV) (n6 n7 i:Nat) (v:Nd) (a:A) (j1 m1:Nat) (R1:List HV) (two:List A) (F:List Bool) (st:CS) (h2:two.length<=8192) (hs1:st.1.length<=90000000) (hs2:st.2.length<=90000000) (hF:F.length<=50000)
  (h:hx Try.prog (.c x::k) (finish rs Kp) ⟨[(2,.ptr A2 0),(3,.ptr A3 0),(4,.pref 0 [] 0),(5,.int .i64 0),(6,.sl n6 A6),(7,.sl n7 A7),(8,.pref 1 [] 0),(9,.pref 2 [] 0),(10,.pref 3 [] 0),(11,.fn 65 [.pref 1 [] 0,.pref 2 [] 0,.pref 3 [] 0]),(12,.int .i64 i),(13,.ptr [.int .i64 v.1,.int .i64 v.2] 0),(17,.ptr [.int .i64 a.f,.int .i64 a.i,.int .i64 a.o,.int .i64 a.t] 0),(96,.sl m1 R1),(97,.int .i64 m1),(98,.int .i64 j1)],[(0,.optr [.nils,.nils]),(1,ng (fG i st (stB a two)).1),(2,ni (fG i st (stB a two)).1),(3,lU F (fG i st (stB a two)).2)],4⟩) :
  hx Try.prog (.c (.loop Xr)::.b 6::.b 5::.c x::k) (finish rs Kp) ⟨[(2,.ptr A2 0),(3,.ptr A3 0),(4,.pref 0 [] 0),(5,.int .i64 0),(6,.sl n6 A6),(7,.sl n7 A7),(8,.pref 1 [] 0),(9,.pref 2 [] 0),(10,.pref 3 [] 0),(11,.fn 65 [.pref 1 [] 0,.pref 2 [] 0,.pref 3 [] 0]),(12,.int .i64 i),(13,.ptr [.int .i64 v.1,.int .i64 v.2] 0),(17,.ptr [.int .i64 a.f,.int .i64 a.i,.int .i64 a.o,.int .i64 a.t] 0),(96,.sl m1 R1),(97,.int .i64 m1),(98,.int .i64 j1),(119,.sl two.length (recs aC two)),(120,.int .i64 two.length),(121,.int .i64 0)],[(0,.optr [.nils,.nils]),(1,ng st.1),(2,ni st.1),(3,lU F st.2)],4⟩:=by
 refine aI [2,3,4,5,6,7,8,9,10,11,12,13,17,96,97,98,119,120,121] (fun j:Nat=>j<=two.length)
  (fun j=>⟨[(2,.ptr A2 0),(3,.ptr A3 0),(4,.pref 0 [] 0),(5,.int .i64 0),(6,.sl n6 A6),(7,.sl n7 A7),(8,.pref 1 [] 0),(9,.pref 2 [] 0),(10,.pref 3 [] 0),(11,.fn 65 [.pref 1 [] 0,.pref 2 [] 0,.pref 3 [] 0]),(12,.int .i64 i),(13,.ptr [.int .i64 v.1,.int .i64 v.2] 0),(17,.ptr [.int .i64 a.f,.int .i64 a.i,.int .i64 a.o,.int .i64 a.t] 0),(96,.sl m1 R1),(97,.int .i64 m1),(98,.int .i64 j1),(119,.sl two.length (recs aC two)),(120,.int .i64 two.length),(121,.int .i64 j)],[(0,.optr [.nils,.nils]),(1,ng (fG i st (stB a (two.take j))).1),(2,ni (fG i st (stB a (two.take j))).1),(3,lU F (fG i st (stB a (two.take j))).2)],4⟩)
  (fun j=>two.length - j) 0 (by omega) rfl ?_
 intro j hj
 have hst:=qZ (i:=i) (l:=stB a (two.take j)) (st:=st)
 have hsl:=Kz (a:=a) (two:=two.take j)
 rw [dS] at hsl
 by_cases hjl:j<two.length
 ·have htk:=Og (a:=a) hjl
  have hap:=fun m=>yf (i:=i) (st:=st) (l:=stB a (two.take j)) (m:=m)
  obtain ⟨sj,hsj⟩:∃sj,fG i st (stB a (two.take j))=sj:=⟨_,rfl⟩
  rw [hsj] at hst hap ⊢
  by_cases hb:(two.getD j default).i=a.o
  ·rw [if_pos hb] at htk
   have hns:=hap [(a.i,(two.getD j default).o,(a.t,(two.getD j default).t))]
   rw [<- htk,Dh] at hns
   have hstep:=Kv i a.i (two.getD j default).o a.t (two.getD j default).t sj.1 F sj.2 (by omega) (by omega) (by omega)
   refine zF ⟨?_⟩
   refine GR [4,5,6] [1,2,3] (by rfl) (by (try simp only [dV,pY,List.cons_append,List.nil_append]);repeat (first|(apply eL1;· exact aQ)|rfl)) KT zT7 rfl (by decide) (hstep) ?_
   rintro _ _ ⟨rfl,rfl⟩ -
   refine ⟨_,_,_,_,_,zT,(by decide),MN,?_⟩
   refine zF ⟨?_⟩
   exact aP [2,3,4,5,6,7,8,9,10,11,12,13,17,96,97,98,119,120,121] (j+1) hjl (by omega) (by simp only [hns];rfl)
  ·rw [if_neg hb,List.append_nil] at htk
   refine zF ⟨?_⟩
   exact aP [2,3,4,5,6,7,8,9,10,11,12,13,17,96,97,98,119,120,121] (j+1) hjl (by omega) (by simp only [htk,hsj];rfl)
 ·obtain rfl:j=two.length:=by omega
  rw [fK]
  refine zF ⟨?_⟩
  exact aY [2,3,4,5,6,7,8,9,10,11,12,13,17,96,97,98] _ rfl h
theorem acQ {k:List HI} [hp:Plain k] {rs:List Nat} {Kp:HV->Prop} {x:HCode} (A2 A3 A6 A7:List HV) (n6 n7 i:Nat) (v:Nd) (one two:List A) (F:List Bool) (st:CS) (h1:one.length<=8192) (h2:two.length<=8192) (hs1:st.1.length<=50000) (hs2:st.2.length<=50000) (hF:F.length<=50000) (hv1:0<=v.2) (hv2:v.2<n7) (hl7:A7.length=n7) (h7:A7.getD v.2.toNat .dead=.sl two.length (recs aC two))
  (h:hx Try.prog (.c x::k) (finish rs Kp) ⟨[(2,.ptr A2 0),(3,.ptr A3 0),(4,.pref 0 [] 0),(5,.int .i64 0),(6,.sl n6 A6),(7,.sl n7 A7),(8,.pref 1 [] 0),(9,.pref 2 [] 0),(10,.pref 3 [] 0),(11,.fn 65 [.pref 1 [] 0,.pref 2 [] 0,.pref 3 [] 0]),(12,.int .i64 i),(13,.ptr [.int .i64 v.1,.int .i64 v.2] 0)],[(0,.optr [.nils,.nils]),(1,ng (fG i st (one.flatMap fun a=>xM a two v)).1),(2,ni (fG i st (one.flatMap fun a=>xM a two v)).1),(3,lU F (fG i st (one.flatMap fun a=>xM a two v)).2)],4⟩) :
  hx Try.prog (.c (.loop Yj)::.b 4::.c x::k) (finish rs Kp) ⟨[(2,.ptr A2 0),(3,.ptr A3 0),(4,.pref 0 [] 0),(5,.int .i64 0),(6,.sl n6 A6),(7,.sl n7 A7),(8,.pref 1 [] 0),(9,.pref 2 [] 0),(10,.pref 3 [] 0),(11,.fn 65 [.pref 1 [] 0,.pref 2 [] 0,.pref 3 [] 0]),(12,.int .i64 i),(13,.ptr [.int .i64 v.1,.int .i64 v.2] 0),(96,.sl one.length (recs aC one)),(97,.int .i64 one.length),(98,.int .i64 0)],[(0,.optr [.nils,.nils]),(1,ng st.1),(2,ni st.1),(3,lU F st.2)],4⟩:=by
 refine aI [2,3,4,5,6,7,8,9,10,11,12,13,96,97,98] (fun j:Nat=>j<=one.length)
  (fun j=>⟨[(2,.ptr A2 0),(3,.ptr A3 0),(4,.pref 0 [] 0),(5,.int .i64 0),(6,.sl n6 A6),(7,.sl n7 A7),(8,.pref 1 [] 0),(9,.pref 2 [] 0),(10,.pref 3 [] 0),(11,.fn 65 [.pref 1 [] 0,.pref 2 [] 0,.pref 3 [] 0]),(12,.int .i64 i),(13,.ptr [.int .i64 v.1,.int .i64 v.2] 0),(96,.sl one.length (recs aC one)),(97,.int .i64 one.length),(98,.int .i64 j)],[(0,.optr [.nils,.nils]),(1,ng (fG i st ((one.take j).flatMap fun a=>xM a two v)).1),(2,ni (fG i st ((one.take j).flatMap fun a=>xM a two v)).1),(3,lU F (fG i st ((one.take j).flatMap fun a=>xM a two v)).2)],4⟩)
  (fun j=>one.length - j) 0 (by omega) rfl ?_
 intro j hj
 have hst:=qZ (i:=i) (l:=((one.take j).flatMap fun a=>xM a two v)) (st:=st)
 have hsl:=Ff (one:=one.take j) (two:=two) (v:=v)
 rw [dS] at hsl
 have hsm:min j one.length*(two.length+1)<=8192*8193:=tK (by omega) (by omega)
 by_cases hjl:j<one.length
 ·have htk:=Pe (two:=two) (v:=v) hjl
  have hap:=fun m=>yf (i:=i) (st:=st) (l:=((one.take j).flatMap fun a=>xM a two v)) (m:=m)
  obtain ⟨sj,hsj⟩:∃sj,fG i st ((one.take j).flatMap fun a=>xM a two v)=sj:=⟨_,rfl⟩
  rw [hsj] at hst hap ⊢
  by_cases hb:(one.getD j default).o = -1
  ·rw [xM,if_pos hb] at htk
   have hns:=hap [((one.getD j default).i,-1,((one.getD j default).t,v.2))]
   rw [<- htk,Dh] at hns
   have hstep:=Kv i (one.getD j default).i (-1) (one.getD j default).t v.2 sj.1 F sj.2 (by omega) (by omega) (by omega)
   refine zF ⟨?_⟩
   refine GR [4,5,6] [1,2,3] (by rfl) (by (try simp only [dV,pY,List.cons_append,List.nil_append]);repeat (first|(apply eL1;· exact aQ)|rfl)) KT zT7 rfl (by decide) (hstep) ?_
   rintro _ _ ⟨rfl,rfl⟩ -
   refine ⟨_,_,_,_,_,zT,(by decide),MN,?_⟩
   refine zF ⟨?_⟩
   exact aP [2,3,4,5,6,7,8,9,10,11,12,13,96,97,98] (j+1) hjl (by omega) (by simp only [hns];rfl)
  ·rw [xM,if_neg hb] at htk
   have hns:=hap (stB (one.getD j default) two)
   rw [<- htk] at hns
   refine eH @h7 ⟨?_⟩
   refine az 52 [2,3,4,5,6,7,8,9,10,11,12,13,17,96,97,98,119,120,121] ⟨[(2,.ptr A2 0),(3,.ptr A3 0),(4,.pref 0 [] 0),(5,.int .i64 0),(6,.sl n6 A6),(7,.sl n7 A7),(8,.pref 1 [] 0),(9,.pref 2 [] 0),(10,.pref 3 [] 0),(11,.fn 65 [.pref 1 [] 0,.pref 2 [] 0,.pref 3 [] 0]),(12,.int .i64 i),(13,.ptr [.int .i64 v.1,.int .i64 v.2] 0),(17,.ptr [.int .i64 (one.getD j default).f,.int .i64 (one.getD j default).i,.int .i64 (one.getD j default).o,.int .i64 (one.getD j default).t] 0),(96,.sl one.length (recs aC one)),(97,.int .i64 one.length),(98,.int .i64 j),(119,.sl two.length (recs aC two)),(120,.int .i64 two.length),(121,.int .i64 0)],[(0,.optr [.nils,.nils]),(1,ng sj.1),(2,ni sj.1),(3,lU F sj.2)],4⟩ rfl ?_
   refine abP A2 A3 A6 A7 n6 n7 i v (one.getD j default) j one.length (recs aC one) two F sj h2 (by omega) (by omega) hF ?_
   refine zF ⟨?_⟩
   exact aP [2,3,4,5,6,7,8,9,10,11,12,13,96,97,98] (j+1) hjl (by omega) (by simp only [hns];rfl)
 ·obtain rfl:j=one.length:=by omega
  rw [fK]
  refine zF ⟨?_⟩
  exact aY [2,3,4,5,6,7,8,9,10,11,12,13] _ rfl h
def pO (x:Int):Bool:=!decide (0<=x/\x<64)
theorem aab (x:Int):HT Try.prog 78 [.int .i64 x] (fun r=>r=.bool (pO x)):=by
 refine HT.of rfl ags (aZ rfl) ?_
 unfold c78
 simp only [aA,Nat.reduceAdd]
 refine zF ⟨?_⟩
 refine aF ay aK (zH x) ?_
 rintro _ rfl
 refine zG ⟨?_⟩
 refine zF ⟨?_⟩
 refine ae ?_
 rfl
theorem ZF (l:List Int) (hl:l.length<=9223372036854775807):HT Try.prog 105 [.sl l.length (HL.ints l),.fn 78 []] (fun r=>∃z:Int,r=.int .i64 z/\(0<=z <-> l.any pO=true)):=by
 refine HT.of rfl aa2 (aZ rfl) ?_
 unfold c105
 simp only [aA,Nat.reduceAdd]
 refine zF ⟨?_⟩
 refine aI [0,1,7,8] (fun k:Nat=>k<=l.length/\(l.take k).any pO=false)
  (fun k=>⟨[(0,.sl l.length (HL.ints l)),(1,.fn 78 []),(7,.int .i64 l.length),(8,.int .i64 k)],[],0⟩)
  (fun k=>l.length - k) 0 ⟨by omega,by simp⟩ rfl ?_
 rintro k ⟨hk,hno⟩
 by_cases hkl:k<l.length
 ·have htk:=bK hkl
  refine zF ⟨?_⟩
  refine Fb (by rfl) ay aK (aab (l.getD k 0)) ?_
  rintro _ rfl
  cases hp:pO (l.getD k 0)
  ·refine zG ⟨?_⟩
   refine zF ⟨?_⟩
   exact aP [0,1,7,8] (k+1) ⟨hkl,by rw [htk,List.any_append,hno];simp only [List.any_cons,List.any_nil,l9,kE];exact hp⟩ (by omega) rfl
  ·refine zG ⟨?_⟩
   refine zF ⟨?_⟩
   refine ae ?_
   exact ⟨_,rfl,fun _=>List.any_eq_true.2 ⟨l.getD k 0,by rw [bH,bM hkl];exact gy _,hp⟩,fun _=>by omega⟩
 ·obtain rfl:k=l.length:=by omega
  rw [fK] at hno
  refine zF ⟨?_⟩
  refine ae ?_
  exact ⟨_,rfl,fun h=>absurd h (by decide),fun h=>by rw [hno] at h;cases h⟩
theorem TI (l:List Int) (hl:l.length<=9223372036854775807):HT Try.prog 79 [.sl l.length (HL.ints l),.fn 78 []] (fun r=>r=.bool (l.any pO)):=by
 refine HT.of rfl ad9 (aZ rfl) ?_
 unfold c79
 simp only [aA,Nat.reduceAdd]
 refine zF ⟨?_⟩
 refine aF ay aK (ZF l hl) ?_
 rintro _ ⟨z,rfl,hz⟩
 refine zG ⟨?_⟩
 by_cases h0:0<=z
 ·refine zF ⟨?_⟩
  refine ae ?_
  simp [bT,hz.1 h0,h0]
 ·have:l.any pO=false:=by
   cases h:l.any pO
   ·rfl
   ·exact absurd (hz.2 h) h0
  rw [this]
  refine zF ⟨?_⟩
  refine ae ?_
  simp [bT,h0]
theorem ZA (l:List Int) (i:Nat) (hl:l.length<=9223372036854775807):HT Try.prog 80 [.sl l.length (HL.ints l),.int .i64 i] (fun r=>r=.int .i64 (l.getD i (-1))):=by
 refine HT.of rfl afD (aZ rfl) ?_
 unfold c80
 simp only [aA,Nat.reduceAdd]
 by_cases h:i<l.length
 ·refine zF ⟨?_⟩
  refine ae ?_
  simp [bT,h]
 ·refine zF ⟨?_⟩
  refine ae ?_
  simp [bT,h]
end Go.Proofs.Ytlbdmpjnmfmnfaa
end
