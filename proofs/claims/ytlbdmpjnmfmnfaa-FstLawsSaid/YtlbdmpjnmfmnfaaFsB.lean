import Derived.Test.YtlbdmpjnmfmnfaaFsA
import Derived.Test.YtlbdmpjnmfmnfaaCodes
set_option linter.unusedSimpArgs false
set_option linter.unusedVariables false
namespace Go.Proofs.Ytlbdmpjnmfmnfaa
open Go.RowKit Go.HL Go.FS
def okA (n:Nat) (a:A):Bool:=decide (0<=a.f/\a.f<n/\0<=a.t/\a.t<n /\ -1<=a.i/\a.i<64 /\ -1<=a.o/\a.o<64)
def okF (fin:List Bool) (al:List A):Bool:=decide (1<=fin.length/\fin.length<=2048/\al.length<=8192)&&al.all (okA fin.length)
theorem tK (x:Int):HT Try.prog 72 [.int .i64 x] (fun r=>r=.bool (decide (0<=x/\x<64))):=by
 refine HT.of rfl aep (Nat.le_of_ble_eq_true rfl) ?_
 unfold c72
 simp only [aY,Nat.reduceAdd]
 by_cases h1:0<=x
 ·by_cases h2:x<64
  ·repeat (first|refine ah ?_|refine aK ?_|refine af ?_|refine az ?_|refine aS ?_|refine ak ?_|refine ae ?_|refine mW (by rfl) (by rfl) kC ?_)
   refine ay ?_
   simp [dG,h1,h2]
  ·repeat (first|refine ah ?_|refine aK ?_|refine af ?_|refine az ?_|refine aS ?_|refine ak ?_|refine ae ?_|refine mW (by rfl) (by rfl) kC ?_)
   refine ay ?_
   simp [dG,h1,h2]
 ·repeat (first|refine ah ?_|refine dH ?_|refine af ?_|refine aO ?_|refine ak ?_|refine ae ?_|refine mW (by rfl) (by rfl) kC ?_)
  refine ay ?_
  simp [dG,h1]
theorem okA_iff {n:Nat} {a:A}:okA n a=true <-> 0<=a.f/\a.f<n/\0<=a.t/\a.t<n /\ -1<=a.i/\a.i<64 /\ -1<=a.o/\a.o<64:=by simp [okA]
theorem PI {n:Nat} {al:List A} {k:Nat} (h:k<al.length):(al.take (k+1)).all (okA n)=((al.take k).all (okA n)&&okA n (al.getD k default)):=by
 rw [List.take_add_one,List.all_append]
 simp [h]
theorem lH {n:Nat} {al:List A} {k:Nat} (h:k<al.length) (h2:okA n (al.getD k default)=false):al.all (okA n)=false:=by
 rw [List.all_eq_false]
 exact ⟨al.getD k default,by rw [List.getD_eq_getElem?_getD,List.getElem?_eq_getElem h];exact List.getElem_mem h,by rw [h2];simp⟩
set_option maxHeartbeats 4000000 in
theorem o9 (fin:List Bool) (al:List A) (hf:fin.length<=9223372036854775807) (ha:al.length<=9223372036854775807):HT Try.prog 26 [.agg (iC fin al)] (fun r=>r=.bool (okF fin al)):=by
 refine HT.of rfl adX (Nat.le_of_ble_eq_true rfl) ?_
 unfold c26
 simp only [aY,Nat.reduceAdd,iC,jX]
 by_cases hb:1<=fin.length/\fin.length<=2048/\al.length<=8192
 ·obtain ⟨h1,h2,h3⟩:=hb
  have hd:okF fin al=al.all (okA fin.length):=by simp [okF,h1,h2,h3]
  repeat (first|refine ah ?_|refine aK ?_|refine aZ ?_|refine af ?_|refine az ?_|refine aO ?_|refine aQ ?_|refine au ?_|refine ak ?_|refine ae ?_|refine aB ?_|refine aF ?_|refine dm ?_|refine aI ?_|refine dU ?_)
  refine cu [1,3,22,23,24] (fun k:Nat=>k<=al.length/\(al.take k).all (okA fin.length)=true)
   (fun k=>⟨[(1,.pref 0 [] 0),(3,.int .i64 fin.length),(22,.sl al.length (recs aC al)),(23,.int .i64 al.length),(24,.int .i64 k)],[(0,.optr [.sl fin.length (HL.bools fin),.sl al.length (recs aC al)])],1⟩)
   (fun k=>al.length - k) 0 ⟨by omega,by simp⟩ rfl ?_
  rintro k ⟨hk,hall⟩
  by_cases hkl:k<al.length
  ·have hst:=PI (n:=fin.length) hkl
   rw [hall,Bool.true_and] at hst
   by_cases f0:0<=(al.getD k default).f
   ·by_cases f1:(al.getD k default).f<fin.length
    ·by_cases t0:0<=(al.getD k default).t
     ·by_cases t1:(al.getD k default).t<fin.length
      ·repeat (first|refine ah ?_|refine aK ?_|refine aU ?_|refine aZ ?_|refine af ?_|refine az ?_|refine aO ?_|refine ax ?_|refine ak ?_|refine ae ?_|refine aB ?_|refine aF ?_|refine mW (by rfl) (by rfl) kC ?_|refine aI ?_|refine bn ?_|refine dK ?_|refine bP eH ?_)
       refine bY bz bW (tK (al.getD k default).i) ?_
       rintro _ rfl
       by_cases i0:0<=(al.getD k default).i/\(al.getD k default).i<64
       ·rw [decide_eq_true i0]
        refine ⟨bG,_,_,_,_,_,fU,(by decide),bu,?_⟩
        repeat (first|refine ah ?_|refine aK ?_|refine dH ?_|refine aZ ?_|refine aO ?_|refine gW (by rfl) ?_|refine aI ?_)
        refine bY bz bW (tK (al.getD k default).o) ?_
        rintro _ rfl
        by_cases o0:0<=(al.getD k default).o/\(al.getD k default).o<64
        ·rw [decide_eq_true o0]
         refine ⟨bG,_,_,_,_,_,fU,(by decide),bu,?_⟩
         repeat (first|refine ah ?_|refine aK ?_|refine dH ?_|refine af ?_|refine aO ?_|refine bH ?_|refine au ?_|refine ae ?_|refine fK ?_|refine aF ?_|refine gW (by rfl) ?_)
         exact dB [1,3,22,23,24] (k+1) ⟨hkl,by rw [hst];simp only [okA,decide_eq_true_eq];omega⟩ (by omega) rfl
        ·rw [decide_eq_false o0]
         refine ⟨bG,_,_,_,_,_,fU,(by decide),bu,?_⟩
         by_cases o1:(al.getD k default).o = -1
         ·repeat (first|refine ah ?_|refine aK ?_|refine aZ ?_|refine af ?_|refine fA ?_|refine aS ?_|refine aO ?_|refine bH ?_|refine au ?_|refine ae ?_|refine fK ?_|refine aF ?_|refine iI (by rfl) ?_|refine aI ?_)
          exact dB [1,3,22,23,24] (k+1) ⟨hkl,by rw [hst];simp only [okA,decide_eq_true_eq];omega⟩ (by omega) rfl
         ·have hbad:okA fin.length (al.getD k default)=false:=by simp only [okA,decide_eq_false_iff_not];omega
          repeat (first|refine ah ?_|refine aK ?_|refine aZ ?_|refine af ?_|refine fA ?_|refine aS ?_|refine aO ?_|refine ax ?_|refine ak ?_|refine ae ?_|refine iI (by rfl) ?_|refine aI ?_)
          refine ay ?_
          simp [dG,hd,lH hkl hbad]
       ·rw [decide_eq_false i0]
        refine ⟨bG,_,_,_,_,_,fU,(by decide),bu,?_⟩
        by_cases i1:(al.getD k default).i = -1
        ·repeat (first|refine ah ?_|refine aK ?_|refine aZ ?_|refine fA ?_|refine aS ?_|refine aO ?_|refine iI (by rfl) ?_|refine aI ?_)
         refine bY bz bW (tK (al.getD k default).o) ?_
         rintro _ rfl
         by_cases o0:0<=(al.getD k default).o/\(al.getD k default).o<64
         ·rw [decide_eq_true o0]
          refine ⟨bG,_,_,_,_,_,fU,(by decide),bu,?_⟩
          repeat (first|refine ah ?_|refine aK ?_|refine dH ?_|refine af ?_|refine aO ?_|refine bH ?_|refine au ?_|refine ae ?_|refine fK ?_|refine aF ?_|refine gW (by rfl) ?_)
          exact dB [1,3,22,23,24] (k+1) ⟨hkl,by rw [hst];simp only [okA,decide_eq_true_eq];omega⟩ (by omega) rfl
         ·rw [decide_eq_false o0]
          refine ⟨bG,_,_,_,_,_,fU,(by decide),bu,?_⟩
          by_cases o1:(al.getD k default).o = -1
          ·repeat (first|refine ah ?_|refine aK ?_|refine aZ ?_|refine af ?_|refine fA ?_|refine aS ?_|refine aO ?_|refine bH ?_|refine au ?_|refine ae ?_|refine fK ?_|refine aF ?_|refine iI (by rfl) ?_|refine aI ?_)
           exact dB [1,3,22,23,24] (k+1) ⟨hkl,by rw [hst];simp only [okA,decide_eq_true_eq];omega⟩ (by omega) rfl
          ·have hbad:okA fin.length (al.getD k default)=false:=by simp only [okA,decide_eq_false_iff_not];omega
           repeat (first|refine ah ?_|refine aK ?_|refine aZ ?_|refine af ?_|refine fA ?_|refine aS ?_|refine aO ?_|refine ax ?_|refine ak ?_|refine ae ?_|refine iI (by rfl) ?_|refine aI ?_)
           refine ay ?_
           simp [dG,hd,lH hkl hbad]
        ·have hbad:okA fin.length (al.getD k default)=false:=by simp only [okA,decide_eq_false_iff_not];omega
         repeat (first|refine ah ?_|refine aK ?_|refine dH ?_|refine aZ ?_|refine af ?_|refine fA ?_|refine aS ?_|refine aO ?_|refine ax ?_|refine ak ?_|refine ae ?_|refine EM (by rfl) (by rfl) ?_|refine iI (by rfl) ?_|refine aI ?_)
         refine ay ?_
         simp [dG,hd,lH hkl hbad]
      ·have hbad:okA fin.length (al.getD k default)=false:=by simp only [okA,decide_eq_false_iff_not];omega
       repeat (first|refine ah ?_|refine aK ?_|refine dH ?_|refine aU ?_|refine aZ ?_|refine af ?_|refine az ?_|refine aS ?_|refine aO ?_|refine ax ?_|refine ak ?_|refine ae ?_|refine aB ?_|refine aF ?_|refine EM (by rfl) (by rfl) ?_|refine mW (by rfl) (by rfl) kC ?_|refine aI ?_|refine bn ?_|refine dK ?_|refine bP eH ?_)
       refine ay ?_
       simp [dG,hd,lH hkl hbad]
     ·have hbad:okA fin.length (al.getD k default)=false:=by simp only [okA,decide_eq_false_iff_not];omega
      repeat (first|refine ah ?_|refine aK ?_|refine dH ?_|refine aU ?_|refine aZ ?_|refine af ?_|refine az ?_|refine aS ?_|refine aO ?_|refine ax ?_|refine ak ?_|refine ae ?_|refine aB ?_|refine aF ?_|refine EM (by rfl) (by rfl) ?_|refine mW (by rfl) (by rfl) kC ?_|refine aI ?_|refine bn ?_|refine dK ?_|refine bP eH ?_)
      refine ay ?_
      simp [dG,hd,lH hkl hbad]
    ·have hbad:okA fin.length (al.getD k default)=false:=by simp only [okA,decide_eq_false_iff_not];omega
     repeat (first|refine ah ?_|refine aK ?_|refine dH ?_|refine aU ?_|refine aZ ?_|refine af ?_|refine az ?_|refine aS ?_|refine aO ?_|refine ax ?_|refine ak ?_|refine ae ?_|refine aB ?_|refine aF ?_|refine EM (by rfl) (by rfl) ?_|refine mW (by rfl) (by rfl) kC ?_|refine aI ?_|refine bn ?_|refine dK ?_|refine bP eH ?_)
     refine ay ?_
     simp [dG,hd,lH hkl hbad]
   ·have hbad:okA fin.length (al.getD k default)=false:=by simp only [okA,decide_eq_false_iff_not];omega
    repeat (first|refine ah ?_|refine dH ?_|refine aU ?_|refine aZ ?_|refine af ?_|refine az ?_|refine aS ?_|refine ax ?_|refine ak ?_|refine ae ?_|refine aB ?_|refine aF ?_|refine EM (by rfl) (by rfl) ?_|refine aI ?_|refine bn ?_|refine dK ?_|refine bP eH ?_)
    refine ay ?_
    simp [dG,hd,lH hkl hbad]
  ·obtain rfl:k=al.length:=by omega
   rw [List.take_length] at hall
   repeat (first|refine ah ?_|refine af ?_|refine az ?_|refine bK (by rfl) ?_|refine au ?_|refine ak ?_|refine ae ?_)
   refine ay ?_
   simp [dG,hd,hall]
 ·have hd:okF fin al=false:=by simp only [okF,decide_eq_false hb,Bool.false_and]
  by_cases h1:1<=fin.length
  ·by_cases h2:fin.length<=2048
   ·have h3:¬ al.length<=8192:=fun h=>hb ⟨h1,h2,h⟩
    repeat (first|refine ah ?_|refine aK ?_|refine aZ ?_|refine af ?_|refine az ?_|refine aO ?_|refine aQ ?_|refine ax ?_|refine ak ?_|refine ae ?_|refine dm ?_|refine aI ?_|refine dU ?_)
    refine ay ?_
    simp [dG,hd]
   ·repeat (first|refine ah ?_|refine aK ?_|refine dH ?_|refine aZ ?_|refine af ?_|refine az ?_|refine aS ?_|refine aO ?_|refine aQ ?_|refine ax ?_|refine ak ?_|refine ae ?_|refine dm ?_|refine aI ?_|refine dU ?_)
    refine ay ?_
    simp [dG,hd]
  ·repeat (first|refine ah ?_|refine dH ?_|refine aZ ?_|refine af ?_|refine az ?_|refine aS ?_|refine aQ ?_|refine ax ?_|refine ak ?_|refine ae ?_|refine aI ?_|refine dU ?_)
   refine ay ?_
   simp [dG,hd]
end Go.Proofs.Ytlbdmpjnmfmnfaa
