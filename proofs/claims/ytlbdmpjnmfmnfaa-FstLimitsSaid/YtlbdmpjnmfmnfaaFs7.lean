import Derived.Test.YtlbdmpjnmfmnfaaFt5
import Derived.Test.YtlbdmpjnmfmnfaaFs6
import Derived.Test.YtlbdmpjnmfmnfaaFsB
section
set_option linter.unusedSimpArgs false
set_option linter.unusedVariables false
namespace Go.Proofs.Ytlbdmpjnmfmnfaa
open Go.RowKit Go.HL Go.FS
set_option maxHeartbeats 8000000 in
theorem Sr {k:List HI} [hp:Plain k] {rs:List Nat} {Kp:HV->Prop} {x:HCode} (A2 A3 A6 A7:List HV) (n6 n7 i:Nat) (v:Nd) (one two:List A) (F:List Bool) (st:CS) (h1:one.length<=8192) (h2:two.length<=8192) (hs1:st.1.length<=50000) (hs2:st.2.length<=50000) (hF:F.length<=50000) (hv1:0<=v.2) (hv2:v.2<n7) (hl7:A7.length=n7) (h7:A7.getD v.2.toNat .dead=.sl two.length (recs aC two))
  (h:hx Try.prog (.c x::k) (finish rs Kp) ⟨[(2,.ptr A2 0),(3,.ptr A3 0),(4,.pref 0 [] 0),(5,.int .i64 0),(6,.sl n6 A6),(7,.sl n7 A7),(8,.pref 1 [] 0),(9,.pref 2 [] 0),(10,.pref 3 [] 0),(11,.fn 65 [.pref 1 [] 0,.pref 2 [] 0,.pref 3 [] 0]),(12,.int .i64 i),(13,.ptr [.int .i64 v.1,.int .i64 v.2] 0)],[(0,.optr [.nils,.nils]),(1,jD (gG i st (one.flatMap fun a=>yC a two v)).1),(2,jB (gG i st (one.flatMap fun a=>yC a two v)).1),(3,je F (gG i st (one.flatMap fun a=>yC a two v)).2)],4⟩) :
  hx Try.prog (.c (.loop JQ)::.b 4::.c x::k) (finish rs Kp) ⟨[(2,.ptr A2 0),(3,.ptr A3 0),(4,.pref 0 [] 0),(5,.int .i64 0),(6,.sl n6 A6),(7,.sl n7 A7),(8,.pref 1 [] 0),(9,.pref 2 [] 0),(10,.pref 3 [] 0),(11,.fn 65 [.pref 1 [] 0,.pref 2 [] 0,.pref 3 [] 0]),(12,.int .i64 i),(13,.ptr [.int .i64 v.1,.int .i64 v.2] 0),(96,.sl one.length (recs aC one)),(97,.int .i64 one.length),(98,.int .i64 0)],[(0,.optr [.nils,.nils]),(1,jD st.1),(2,jB st.1),(3,je F st.2)],4⟩:=by
 refine dn [2,3,4,5,6,7,8,9,10,11,12,13,96,97,98] (fun j:Nat=>j<=one.length)
  (fun j=>⟨[(2,.ptr A2 0),(3,.ptr A3 0),(4,.pref 0 [] 0),(5,.int .i64 0),(6,.sl n6 A6),(7,.sl n7 A7),(8,.pref 1 [] 0),(9,.pref 2 [] 0),(10,.pref 3 [] 0),(11,.fn 65 [.pref 1 [] 0,.pref 2 [] 0,.pref 3 [] 0]),(12,.int .i64 i),(13,.ptr [.int .i64 v.1,.int .i64 v.2] 0),(96,.sl one.length (recs aC one)),(97,.int .i64 one.length),(98,.int .i64 j)],[(0,.optr [.nils,.nils]),(1,jD (gG i st ((one.take j).flatMap fun a=>yC a two v)).1),(2,jB (gG i st ((one.take j).flatMap fun a=>yC a two v)).1),(3,je F (gG i st ((one.take j).flatMap fun a=>yC a two v)).2)],4⟩)
  (fun j=>one.length - j) 0 (by omega) rfl ?_
 intro j hj
 have hst:=mY (i:=i) (l:=((one.take j).flatMap fun a=>yC a two v)) (st:=st)
 have hsl:=AO (one:=one.take j) (two:=two) (v:=v)
 rw [List.length_take] at hsl
 have hsm:min j one.length*(two.length+1)<=8192*8193:=Nat.mul_le_mul (by omega) (by omega)
 by_cases hjl:j<one.length
 ·have htk:=J6 (two:=two) (v:=v) hjl
  have hap:=fun m=>uk (i:=i) (st:=st) (l:=((one.take j).flatMap fun a=>yC a two v)) (m:=m)
  obtain ⟨sj,hsj⟩:∃sj,gG i st ((one.take j).flatMap fun a=>yC a two v)=sj:=⟨_,rfl⟩
  rw [hsj] at hst hap ⊢
  by_cases hb:(one.getD j default).o = -1
  ·rw [yC,if_pos hb] at htk
   have hns:=hap [((one.getD j default).i,-1,((one.getD j default).t,v.2))]
   rw [<- htk,uh] at hns
   have hstep:=AP i (one.getD j default).i (-1) (one.getD j default).t v.2 sj.1 F sj.2 (by omega) (by omega) (by omega)
   repeat (first|refine ah ?_|refine bu ?_|refine dP ?_|refine aW ?_|refine af ?_|refine aF ?_|refine dV ?_|refine ax ?_|refine ak ?_|refine ae ?_|refine aK ?_|refine aI ?_|refine dh ?_|refine aH ?_|refine bG ?_|refine dG ?_|refine bI dZ ?_|refine bY ?_)
   refine wQ [4,5,6] [1,2,3] (by rfl) (by (try simp only [List.map_cons,List.map_nil,List.cons_append,List.nil_append]);repeat (first|(apply Vb;· exact aJ)|rfl)) Eo RH rfl (by decide) (hstep) ?_
   rintro _ _ ⟨rfl,rfl⟩ -
   refine ⟨_,_,_,_,_,gY,(by decide),IC,?_⟩
   repeat (first|refine ah ?_|refine af ?_|refine bM ?_|refine bZ (by rfl) ?_|refine ae ?_)
   exact dS [2,3,4,5,6,7,8,9,10,11,12,13,96,97,98] (j+1) hjl (by omega) (by simp only [hns];rfl)
  ·rw [yC,if_neg hb] at htk
   have hns:=hap (stB (one.getD j default) two)
   rw [<- htk] at hns
   repeat (first|refine ah ?_|refine bu ?_|refine jf (by rfl) aQ (by (try simp (disch:=omega) only [go_sem,h7]);try rfl) ?_|refine iG (by rfl) bQ (by (try simp (disch:=omega) only [go_sem,reduceIte,Nat.reduceEqDiff,Nat.reduceAdd,Nat.reduceMul,h7]);try rfl) aQ (by (try simp (disch:=omega) only [go_sem,h7]);try rfl) aJ ?_|refine af ?_|refine aF ?_|refine dV ?_|refine dm (by rfl) ?_|refine ax ?_|refine au ?_|refine ak ?_|refine ae ?_|refine aK ?_|refine aI ?_|refine dh ?_|refine aH ?_|refine vJ (by rfl) aQ (by (try simp (disch:=omega) only [go_sem,reduceIte,Nat.reduceEqDiff,Nat.reduceAdd,Nat.reduceMul,h7]);try rfl) ?_|refine yP (by rfl) aJ aO iM (by rfl) (by decide) bQ aO aQ (by (try simp (disch:=omega) only [go_sem,h7]);try rfl) aO ?_|refine bI dZ ?_)
   refine bU 52 [2,3,4,5,6,7,8,9,10,11,12,13,17,96,97,98,119,120,121] ⟨[(2,.ptr A2 0),(3,.ptr A3 0),(4,.pref 0 [] 0),(5,.int .i64 0),(6,.sl n6 A6),(7,.sl n7 A7),(8,.pref 1 [] 0),(9,.pref 2 [] 0),(10,.pref 3 [] 0),(11,.fn 65 [.pref 1 [] 0,.pref 2 [] 0,.pref 3 [] 0]),(12,.int .i64 i),(13,.ptr [.int .i64 v.1,.int .i64 v.2] 0),(17,.ptr [.int .i64 (one.getD j default).f,.int .i64 (one.getD j default).i,.int .i64 (one.getD j default).o,.int .i64 (one.getD j default).t] 0),(96,.sl one.length (recs aC one)),(97,.int .i64 one.length),(98,.int .i64 j),(119,.sl two.length (recs aC two)),(120,.int .i64 two.length),(121,.int .i64 0)],[(0,.optr [.nils,.nils]),(1,jD sj.1),(2,jB sj.1),(3,je F sj.2)],4⟩ rfl ?_
   refine Uu A2 A3 A6 A7 n6 n7 i v (one.getD j default) j one.length (recs aC one) two F sj h2 (by omega) (by omega) hF ?_
   repeat (first|refine ah ?_|refine af ?_|refine bM ?_|refine ae ?_)
   exact dS [2,3,4,5,6,7,8,9,10,11,12,13,96,97,98] (j+1) hjl (by omega) (by simp only [hns];rfl)
 ·obtain rfl:j=one.length:=by omega
  rw [List.take_length]
  repeat (first|refine af ?_|refine aF ?_|refine bZ (by rfl) ?_|refine au ?_|refine ak ?_|refine ae ?_)
  exact dR [2,3,4,5,6,7,8,9,10,11,12,13] _ rfl h
end Go.Proofs.Ytlbdmpjnmfmnfaa
end
section
set_option linter.unusedSimpArgs false
set_option linter.unusedVariables false
namespace Go.Proofs.Ytlbdmpjnmfmnfaa
open Go.RowKit Go.HL Go.FS
def rW (x:Int):Bool:=!decide (0<=x/\x<64)
theorem OH (x:Int):HT Try.prog 78 [.int .i64 x] (fun r=>r=.bool (rW x)):=by
 refine HT.of rfl ZR (Nat.le_of_ble_eq_true rfl) ?_
 unfold c78
 simp only [aY,Nat.reduceAdd]
 repeat (first|refine ah ?_|refine af ?_|refine ak ?_|refine ae ?_)
 refine bT bH dw (rC x) ?_
 rintro _ rfl
 refine ⟨bJ,_,_,_,_,_,gY,(by decide),bF,?_⟩
 repeat (first|refine ah ?_|refine af ?_|refine Ld (by rfl) (by (try simp only [go_sem,reduceIte]);try rfl) ?_)
 refine ay ?_
 rfl
theorem OA (l:List Int) (hl:l.length<=9223372036854775807):HT Try.prog 105 [.sl l.length (HL.ints l),.fn 78 []] (fun r=>∃z:Int,r=.int .i64 z/\(0<=z <-> l.any rW=true)):=by
 refine HT.of rfl Xg (Nat.le_of_ble_eq_true rfl) ?_
 unfold c105
 simp only [aY,Nat.reduceAdd]
 repeat (first|refine ah ?_|refine af ?_|refine dm (by rfl) ?_|refine ak ?_|refine ae ?_|refine aK ?_)
 refine dn [0,1,7,8] (fun k:Nat=>k<=l.length/\(l.take k).any rW=false)
  (fun k=>⟨[(0,.sl l.length (HL.ints l)),(1,.fn 78 []),(7,.int .i64 l.length),(8,.int .i64 k)],[],0⟩)
  (fun k=>l.length - k) 0 ⟨by omega,by simp⟩ rfl ?_
 rintro k ⟨hk,hno⟩
 by_cases hkl:k<l.length
 ·have htk:=dC hkl
  repeat (first|refine ah ?_|refine bu ?_|refine dP ?_|refine af ?_|refine aF ?_|refine ax ?_|refine ak ?_|refine ae ?_|refine aK ?_|refine aI ?_)
  refine Gg (by rfl) bH dw (OH (l.getD k 0)) ?_
  rintro _ rfl
  cases hp:rW (l.getD k 0)
  ·refine ⟨bJ,_,_,_,_,_,gY,(by decide),bF,?_⟩
   repeat (first|refine ah ?_|refine af ?_|refine bM ?_|refine au ?_|refine ae ?_|refine gV ?_|refine aI ?_)
   exact dS [0,1,7,8] (k+1) ⟨hkl,by rw [htk,List.any_append,hno];simp only [List.any_cons,List.any_nil,Bool.or_false,Bool.false_or];exact hp⟩ (by omega) rfl
  ·refine ⟨bJ,_,_,_,_,_,gY,(by decide),bF,?_⟩
   repeat (first|refine ah ?_|refine af ?_|refine ax ?_|refine ak ?_|refine ae ?_)
   refine ay ?_
   exact ⟨_,rfl,fun _=>List.any_eq_true.2 ⟨l.getD k 0,by rw [List.getD_eq_getElem?_getD,List.getElem?_eq_getElem hkl];exact List.getElem_mem _,hp⟩,fun _=>by omega⟩
 ·obtain rfl:k=l.length:=by omega
  rw [List.take_length] at hno
  repeat (first|refine ah ?_|refine af ?_|refine aF ?_|refine bZ (by rfl) ?_|refine au ?_|refine ak ?_|refine ae ?_)
  refine ay ?_
  exact ⟨_,rfl,fun h=>absurd h (by decide),fun h=>by rw [hno] at h;cases h⟩
theorem Gi (l:List Int) (hl:l.length<=9223372036854775807):HT Try.prog 79 [.sl l.length (HL.ints l),.fn 78 []] (fun r=>r=.bool (l.any rW)):=by
 refine HT.of rfl aak (Nat.le_of_ble_eq_true rfl) ?_
 unfold c79
 simp only [aY,Nat.reduceAdd]
 repeat (first|refine ah ?_|refine af ?_|refine ak ?_|refine ae ?_)
 refine bT bH dw (OA l hl) ?_
 rintro _ ⟨z,rfl,hz⟩
 refine ⟨bJ,_,_,_,_,_,gY,(by decide),bF,?_⟩
 by_cases h0:0<=z
 ·repeat (first|refine ah ?_|refine af ?_|refine pW (by rfl) (by rfl) jU ?_)
  refine ay ?_
  simp [dE,hz.1 h0,h0]
 ·have:l.any rW=false:=by
   cases h:l.any rW
   ·rfl
   ·exact absurd (hz.2 h) h0
  rw [this]
  repeat (first|refine ah ?_|refine af ?_|refine pW (by rfl) (by rfl) jU ?_)
  refine ay ?_
  simp [dE,h0]
theorem Pn (l:List Int) (i:Nat) (hl:l.length<=9223372036854775807):HT Try.prog 80 [.sl l.length (HL.ints l),.int .i64 i] (fun r=>r=.int .i64 (l.getD i (-1))):=by
 refine HT.of rfl aac (Nat.le_of_ble_eq_true rfl) ?_
 unfold c80
 simp only [aY,Nat.reduceAdd]
 by_cases h:i<l.length
 ·repeat (first|refine ah ?_|refine bu ?_|refine dP ?_|refine af ?_|refine aF ?_|refine dm (by rfl) ?_|refine ax ?_|refine ak ?_|refine ae ?_)
  refine ay ?_
  simp [dE,h]
 ·repeat (first|refine ah ?_|refine af ?_|refine aF ?_|refine dm (by rfl) ?_|refine au ?_|refine ak ?_|refine ae ?_|refine aI ?_)
  refine ay ?_
  simp [dE,h]
end Go.Proofs.Ytlbdmpjnmfmnfaa
end
