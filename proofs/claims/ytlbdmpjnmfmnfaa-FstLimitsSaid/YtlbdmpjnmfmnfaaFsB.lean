import Derived.Test.YtlbdmpjnmfmnfaaFsA
import Derived.Test.YtlbdmpjnmfmnfaaCodes
set_option linter.unusedSimpArgs false
set_option linter.unusedVariables false
namespace Go.Proofs.Ytlbdmpjnmfmnfaa
open Go.RowKit Go.HL Go.FS
def okA (n:Nat) (a:A):Bool:=decide (0<=a.f/\a.f<n/\0<=a.t/\a.t<n /\ -1<=a.i/\a.i<64 /\ -1<=a.o/\a.o<64)
def okF (fin:List Bool) (al:List A):Bool:=decide (1<=fin.length/\fin.length<=2048/\al.length<=8192)&&al.all (okA fin.length)
theorem rC (x:Int):HT Try.prog 72 [.int .i64 x] (fun r=>r=.bool (decide (0<=x/\x<64))):=by
 refine HT.of rfl Z7 (Nat.le_of_ble_eq_true rfl) ?_
 unfold c72
 simp only [aY,Nat.reduceAdd]
 by_cases h1:0<=x
 ·by_cases h2:x<64
  ·repeat (first|refine ah ?_|refine aT ?_|refine af ?_|refine aF ?_|refine aU ?_|refine ak ?_|refine ae ?_|refine pW (by rfl) (by rfl) jU ?_)
   refine ay ?_
   simp [dE,h1,h2]
  ·repeat (first|refine ah ?_|refine aT ?_|refine af ?_|refine aF ?_|refine aU ?_|refine ak ?_|refine ae ?_|refine pW (by rfl) (by rfl) jU ?_)
   refine ay ?_
   simp [dE,h1,h2]
 ·repeat (first|refine ah ?_|refine dI ?_|refine af ?_|refine aS ?_|refine ak ?_|refine ae ?_|refine pW (by rfl) (by rfl) jU ?_)
  refine ay ?_
  simp [dE,h1]
theorem okA_iff {n:Nat} {a:A}:okA n a=true <-> 0<=a.f/\a.f<n/\0<=a.t/\a.t<n /\ -1<=a.i/\a.i<64 /\ -1<=a.o/\a.o<64:=by simp [okA]
theorem KP {n:Nat} {al:List A} {k:Nat} (h:k<al.length):(al.take (k+1)).all (okA n)=((al.take k).all (okA n)&&okA n (al.getD k default)):=by
 rw [List.take_add_one,List.all_append]
 simp [h]
theorem kH {n:Nat} {al:List A} {k:Nat} (h:k<al.length) (h2:okA n (al.getD k default)=false):al.all (okA n)=false:=by
 rw [List.all_eq_false]
 exact ⟨al.getD k default,by rw [List.getD_eq_getElem?_getD,List.getElem?_eq_getElem h];exact List.getElem_mem h,by rw [h2];simp⟩
set_option maxHeartbeats 4000000 in
theorem jF (fin:List Bool) (al:List A) (hf:fin.length<=9223372036854775807) (ha:al.length<=9223372036854775807):HT Try.prog 26 [.agg (iF fin al)] (fun r=>r=.bool (okF fin al)):=by
 refine HT.of rfl aan (Nat.le_of_ble_eq_true rfl) ?_
 unfold c26
 simp only [aY,Nat.reduceAdd,iF,jJ]
 by_cases hb:1<=fin.length/\fin.length<=2048/\al.length<=8192
 ·obtain ⟨h1,h2,h3⟩:=hb
  have hd:okF fin al=al.all (okA fin.length):=by simp [okF,h1,h2,h3]
  repeat (first|refine ah ?_|refine aT ?_|refine aW ?_|refine af ?_|refine aF ?_|refine aS ?_|refine dm (by rfl) ?_|refine au ?_|refine ak ?_|refine ae ?_|refine aK ?_|refine aI ?_|refine bP ?_|refine aH ?_|refine dX ?_)
  refine dn [1,3,22,23,24] (fun k:Nat=>k<=al.length/\(al.take k).all (okA fin.length)=true)
   (fun k=>⟨[(1,.pref 0 [] 0),(3,.int .i64 fin.length),(22,.sl al.length (recs aC al)),(23,.int .i64 al.length),(24,.int .i64 k)],[(0,.optr [.sl fin.length (HL.bools fin),.sl al.length (recs aC al)])],1⟩)
   (fun k=>al.length - k) 0 ⟨by omega,by simp⟩ rfl ?_
  rintro k ⟨hk,hall⟩
  by_cases hkl:k<al.length
  ·have hst:=KP (n:=fin.length) hkl
   rw [hall,Bool.true_and] at hst
   by_cases f0:0<=(al.getD k default).f
   ·by_cases f1:(al.getD k default).f<fin.length
    ·by_cases t0:0<=(al.getD k default).t
     ·by_cases t1:(al.getD k default).t<fin.length
      ·repeat (first|refine ah ?_|refine aT ?_|refine bu ?_|refine aW ?_|refine af ?_|refine aF ?_|refine aS ?_|refine ax ?_|refine ak ?_|refine ae ?_|refine aK ?_|refine aI ?_|refine pW (by rfl) (by rfl) jU ?_|refine aH ?_|refine bG ?_|refine dG ?_|refine bI dZ ?_)
       refine bT bH dw (rC (al.getD k default).i) ?_
       rintro _ rfl
       by_cases i0:0<=(al.getD k default).i/\(al.getD k default).i<64
       ·rw [decide_eq_true i0]
        refine ⟨bJ,_,_,_,_,_,gY,(by decide),bF,?_⟩
        repeat (first|refine ah ?_|refine aT ?_|refine dI ?_|refine aW ?_|refine aS ?_|refine iU (by rfl) ?_|refine aH ?_)
        refine bT bH dw (rC (al.getD k default).o) ?_
        rintro _ rfl
        by_cases o0:0<=(al.getD k default).o/\(al.getD k default).o<64
        ·rw [decide_eq_true o0]
         refine ⟨bJ,_,_,_,_,_,gY,(by decide),bF,?_⟩
         repeat (first|refine ah ?_|refine aT ?_|refine dI ?_|refine af ?_|refine aS ?_|refine bM ?_|refine au ?_|refine ae ?_|refine gV ?_|refine aI ?_|refine iU (by rfl) ?_)
         exact dS [1,3,22,23,24] (k+1) ⟨hkl,by rw [hst];simp only [okA,decide_eq_true_eq];omega⟩ (by omega) rfl
        ·rw [decide_eq_false o0]
         refine ⟨bJ,_,_,_,_,_,gY,(by decide),bF,?_⟩
         by_cases o1:(al.getD k default).o = -1
         ·repeat (first|refine ah ?_|refine aT ?_|refine aW ?_|refine af ?_|refine lh (by rfl) (by rfl) lF ?_|refine aU ?_|refine aS ?_|refine bM ?_|refine au ?_|refine ae ?_|refine gV ?_|refine aI ?_|refine jC (by rfl) ?_|refine aH ?_)
          exact dS [1,3,22,23,24] (k+1) ⟨hkl,by rw [hst];simp only [okA,decide_eq_true_eq];omega⟩ (by omega) rfl
         ·have hbad:okA fin.length (al.getD k default)=false:=by simp only [okA,decide_eq_false_iff_not];omega
          repeat (first|refine ah ?_|refine aT ?_|refine aW ?_|refine af ?_|refine lh (by rfl) (by rfl) lF ?_|refine aU ?_|refine aS ?_|refine ax ?_|refine ak ?_|refine ae ?_|refine jC (by rfl) ?_|refine aH ?_)
          refine ay ?_
          simp [dE,hd,kH hkl hbad]
       ·rw [decide_eq_false i0]
        refine ⟨bJ,_,_,_,_,_,gY,(by decide),bF,?_⟩
        by_cases i1:(al.getD k default).i = -1
        ·repeat (first|refine ah ?_|refine aT ?_|refine aW ?_|refine lh (by rfl) (by rfl) lF ?_|refine aU ?_|refine aS ?_|refine jC (by rfl) ?_|refine aH ?_)
         refine bT bH dw (rC (al.getD k default).o) ?_
         rintro _ rfl
         by_cases o0:0<=(al.getD k default).o/\(al.getD k default).o<64
         ·rw [decide_eq_true o0]
          refine ⟨bJ,_,_,_,_,_,gY,(by decide),bF,?_⟩
          repeat (first|refine ah ?_|refine aT ?_|refine dI ?_|refine af ?_|refine aS ?_|refine bM ?_|refine au ?_|refine ae ?_|refine gV ?_|refine aI ?_|refine iU (by rfl) ?_)
          exact dS [1,3,22,23,24] (k+1) ⟨hkl,by rw [hst];simp only [okA,decide_eq_true_eq];omega⟩ (by omega) rfl
         ·rw [decide_eq_false o0]
          refine ⟨bJ,_,_,_,_,_,gY,(by decide),bF,?_⟩
          by_cases o1:(al.getD k default).o = -1
          ·repeat (first|refine ah ?_|refine aT ?_|refine aW ?_|refine af ?_|refine lh (by rfl) (by rfl) lF ?_|refine aU ?_|refine aS ?_|refine bM ?_|refine au ?_|refine ae ?_|refine gV ?_|refine aI ?_|refine jC (by rfl) ?_|refine aH ?_)
           exact dS [1,3,22,23,24] (k+1) ⟨hkl,by rw [hst];simp only [okA,decide_eq_true_eq];omega⟩ (by omega) rfl
          ·have hbad:okA fin.length (al.getD k default)=false:=by simp only [okA,decide_eq_false_iff_not];omega
           repeat (first|refine ah ?_|refine aT ?_|refine aW ?_|refine af ?_|refine lh (by rfl) (by rfl) lF ?_|refine aU ?_|refine aS ?_|refine ax ?_|refine ak ?_|refine ae ?_|refine jC (by rfl) ?_|refine aH ?_)
           refine ay ?_
           simp [dE,hd,kH hkl hbad]
        ·have hbad:okA fin.length (al.getD k default)=false:=by simp only [okA,decide_eq_false_iff_not];omega
         repeat (first|refine ah ?_|refine aT ?_|refine dI ?_|refine aW ?_|refine af ?_|refine lh (by rfl) (by rfl) lF ?_|refine aU ?_|refine aS ?_|refine ax ?_|refine ak ?_|refine ae ?_|refine zC (by rfl) (by rfl) ?_|refine jC (by rfl) ?_|refine aH ?_)
         refine ay ?_
         simp [dE,hd,kH hkl hbad]
      ·have hbad:okA fin.length (al.getD k default)=false:=by simp only [okA,decide_eq_false_iff_not];omega
       repeat (first|refine ah ?_|refine aT ?_|refine dI ?_|refine bu ?_|refine aW ?_|refine af ?_|refine aF ?_|refine aU ?_|refine aS ?_|refine ax ?_|refine ak ?_|refine ae ?_|refine aK ?_|refine aI ?_|refine zC (by rfl) (by rfl) ?_|refine pW (by rfl) (by rfl) jU ?_|refine aH ?_|refine bG ?_|refine dG ?_|refine bI dZ ?_)
       refine ay ?_
       simp [dE,hd,kH hkl hbad]
     ·have hbad:okA fin.length (al.getD k default)=false:=by simp only [okA,decide_eq_false_iff_not];omega
      repeat (first|refine ah ?_|refine aT ?_|refine dI ?_|refine bu ?_|refine aW ?_|refine af ?_|refine aF ?_|refine aU ?_|refine aS ?_|refine ax ?_|refine ak ?_|refine ae ?_|refine aK ?_|refine aI ?_|refine zC (by rfl) (by rfl) ?_|refine pW (by rfl) (by rfl) jU ?_|refine aH ?_|refine bG ?_|refine dG ?_|refine bI dZ ?_)
      refine ay ?_
      simp [dE,hd,kH hkl hbad]
    ·have hbad:okA fin.length (al.getD k default)=false:=by simp only [okA,decide_eq_false_iff_not];omega
     repeat (first|refine ah ?_|refine aT ?_|refine dI ?_|refine bu ?_|refine aW ?_|refine af ?_|refine aF ?_|refine aU ?_|refine aS ?_|refine ax ?_|refine ak ?_|refine ae ?_|refine aK ?_|refine aI ?_|refine zC (by rfl) (by rfl) ?_|refine pW (by rfl) (by rfl) jU ?_|refine aH ?_|refine bG ?_|refine dG ?_|refine bI dZ ?_)
     refine ay ?_
     simp [dE,hd,kH hkl hbad]
   ·have hbad:okA fin.length (al.getD k default)=false:=by simp only [okA,decide_eq_false_iff_not];omega
    repeat (first|refine ah ?_|refine dI ?_|refine bu ?_|refine aW ?_|refine af ?_|refine aF ?_|refine aU ?_|refine ax ?_|refine ak ?_|refine ae ?_|refine aK ?_|refine aI ?_|refine zC (by rfl) (by rfl) ?_|refine aH ?_|refine bG ?_|refine dG ?_|refine bI dZ ?_)
    refine ay ?_
    simp [dE,hd,kH hkl hbad]
  ·obtain rfl:k=al.length:=by omega
   rw [List.take_length] at hall
   repeat (first|refine ah ?_|refine af ?_|refine aF ?_|refine bZ (by rfl) ?_|refine au ?_|refine ak ?_|refine ae ?_)
   refine ay ?_
   simp [dE,hd,hall]
 ·have hd:okF fin al=false:=by simp only [okF,decide_eq_false hb,Bool.false_and]
  by_cases h1:1<=fin.length
  ·by_cases h2:fin.length<=2048
   ·have h3:¬ al.length<=8192:=fun h=>hb ⟨h1,h2,h⟩
    repeat (first|refine ah ?_|refine aT ?_|refine aW ?_|refine af ?_|refine aF ?_|refine aS ?_|refine dm (by rfl) ?_|refine ax ?_|refine ak ?_|refine ae ?_|refine bP ?_|refine aH ?_|refine dX ?_)
    refine ay ?_
    simp [dE,hd]
   ·repeat (first|refine ah ?_|refine aT ?_|refine dI ?_|refine aW ?_|refine af ?_|refine aF ?_|refine aU ?_|refine aS ?_|refine dm (by rfl) ?_|refine ax ?_|refine ak ?_|refine ae ?_|refine bP ?_|refine aH ?_|refine dX ?_)
    refine ay ?_
    simp [dE,hd]
  ·repeat (first|refine ah ?_|refine dI ?_|refine aW ?_|refine af ?_|refine aF ?_|refine aU ?_|refine dm (by rfl) ?_|refine ax ?_|refine ak ?_|refine ae ?_|refine aH ?_|refine dX ?_)
   refine ay ?_
   simp [dE,hd]
end Go.Proofs.Ytlbdmpjnmfmnfaa
