import Derived.Test.YtlbdmpjnmfmnfaaFsA
import Derived.Test.YtlbdmpjnmfmnfaaCodes
set_option linter.unusedSimpArgs false
set_option linter.unusedVariables false
namespace Go.Proofs.Ytlbdmpjnmfmnfaa
open Go.RowKit Go.HL Go.FS
def okA (n:Nat) (a:A):Bool:=decide (0<=a.f/\a.f<n/\0<=a.t/\a.t<n /\ -1<=a.i/\a.i<64 /\ -1<=a.o/\a.o<64)
def okF (fin:List Bool) (al:List A):Bool:=decide (1<=fin.length/\fin.length<=2048/\al.length<=8192)&&al.all (okA fin.length)
theorem pI (x:Int):HT Try.prog 72 [.int .i64 x] (fun r=>r=.bool (decide (0<=x/\x<64))):=by
 refine HT.of rfl XH (Nat.le_of_ble_eq_true rfl) ?_
 unfold c72
 simp only [aS,Nat.reduceAdd]
 by_cases h1:0<=x
 ·by_cases h2:x<64
  ·repeat (first|refine ag ?_|refine aK ?_|refine af ?_|refine az ?_|refine aN ?_|refine ah ?_|refine ae ?_|refine mF (by rfl) (by rfl) lw ?_)
   refine ax ?_
   simp [dA,h1,h2]
  ·repeat (first|refine ag ?_|refine aK ?_|refine af ?_|refine az ?_|refine aN ?_|refine ah ?_|refine ae ?_|refine mF (by rfl) (by rfl) lw ?_)
   refine ax ?_
   simp [dA,h1,h2]
 ·repeat (first|refine ag ?_|refine bV ?_|refine af ?_|refine aI ?_|refine ah ?_|refine ae ?_|refine mF (by rfl) (by rfl) lw ?_)
  refine ax ?_
  simp [dA,h1]
theorem okA_iff {n:Nat} {a:A}:okA n a=true <-> 0<=a.f/\a.f<n/\0<=a.t/\a.t<n /\ -1<=a.i/\a.i<64 /\ -1<=a.o/\a.o<64:=by simp [okA]
theorem IY {n:Nat} {al:List A} {k:Nat} (h:k<al.length):(al.take (k+1)).all (okA n)=((al.take k).all (okA n)&&okA n (al.getD k default)):=by
 rw [List.take_add_one,List.all_append]
 simp [h]
theorem jL {n:Nat} {al:List A} {k:Nat} (h:k<al.length) (h2:okA n (al.getD k default)=false):al.all (okA n)=false:=by
 rw [List.all_eq_false]
 exact ⟨al.getD k default,by rw [List.getD_eq_getElem?_getD,List.getElem?_eq_getElem h];exact List.getElem_mem h,by rw [h2];simp⟩
set_option maxHeartbeats 4000000 in
theorem rq (fin:List Bool) (al:List A) (hf:fin.length<=9223372036854775807) (ha:al.length<=9223372036854775807):HT Try.prog 26 [.agg (gQ fin al)] (fun r=>r=.bool (okF fin al)):=by
 refine HT.of rfl WW (Nat.le_of_ble_eq_true rfl) ?_
 unfold XI
 simp only [aS,Nat.reduceAdd,gQ,jC]
 by_cases hb:1<=fin.length/\fin.length<=2048/\al.length<=8192
 ·obtain ⟨h1,h2,h3⟩:=hb
  have hd:okF fin al=al.all (okA fin.length):=by simp [okF,h1,h2,h3]
  repeat (first|refine ag ?_|refine aK ?_|refine aV ?_|refine af ?_|refine az ?_|refine aI ?_|refine bY (by rfl) ?_|refine ak ?_|refine ah ?_|refine ae ?_|refine aH ?_|refine aF ?_|refine bU ?_|refine aJ ?_|refine fC ?_)
  refine cu [1,3,22,23,24] (fun k:Nat=>k<=al.length/\(al.take k).all (okA fin.length)=true)
   (fun k=>⟨[(1,.pref 0 [] 0),(3,.int .i64 fin.length),(22,.sl al.length (recs aC al)),(23,.int .i64 al.length),(24,.int .i64 k)],[(0,.optr [.sl fin.length (HL.bools fin),.sl al.length (recs aC al)])],1⟩)
   (fun k=>al.length - k) 0 ⟨by omega,by simp⟩ rfl ?_
  rintro k ⟨hk,hall⟩
  by_cases hkl:k<al.length
  ·have hst:=IY (n:=fin.length) hkl
   rw [hall,Bool.true_and] at hst
   by_cases f0:0<=(al.getD k default).f
   ·by_cases f1:(al.getD k default).f<fin.length
    ·by_cases t0:0<=(al.getD k default).t
     ·by_cases t1:(al.getD k default).t<fin.length
      ·repeat (first|refine ag ?_|refine aK ?_|refine aZ ?_|refine aV ?_|refine af ?_|refine az ?_|refine aI ?_|refine au ?_|refine ah ?_|refine ae ?_|refine aH ?_|refine aF ?_|refine mF (by rfl) (by rfl) lw ?_|refine aJ ?_|refine bG ?_|refine dG ?_|refine bP dI ?_)
       refine bI bD cO (pI (al.getD k default).i) ?_
       rintro _ rfl
       by_cases i0:0<=(al.getD k default).i/\(al.getD k default).i<64
       ·rw [decide_eq_true i0]
        refine ⟨bF,_,_,_,_,_,gq,(by decide),bC,?_⟩
        repeat (first|refine ag ?_|refine aK ?_|refine bV ?_|refine aV ?_|refine aI ?_|refine iY (by rfl) ?_|refine aJ ?_)
        refine bI bD cO (pI (al.getD k default).o) ?_
        rintro _ rfl
        by_cases o0:0<=(al.getD k default).o/\(al.getD k default).o<64
        ·rw [decide_eq_true o0]
         refine ⟨bF,_,_,_,_,_,gq,(by decide),bC,?_⟩
         repeat (first|refine ag ?_|refine aK ?_|refine bV ?_|refine af ?_|refine aI ?_|refine bu ?_|refine ak ?_|refine ae ?_|refine fE ?_|refine aF ?_|refine iY (by rfl) ?_)
         exact dm [1,3,22,23,24] (k+1) ⟨hkl,by rw [hst];simp only [okA,decide_eq_true_eq];omega⟩ (by omega) rfl
        ·rw [decide_eq_false o0]
         refine ⟨bF,_,_,_,_,_,gq,(by decide),bC,?_⟩
         by_cases o1:(al.getD k default).o = -1
         ·repeat (first|refine ag ?_|refine aK ?_|refine aV ?_|refine af ?_|refine ji (by rfl) (by rfl) jm ?_|refine aN ?_|refine aI ?_|refine bu ?_|refine ak ?_|refine ae ?_|refine fE ?_|refine aF ?_|refine jK (by rfl) ?_|refine aJ ?_)
          exact dm [1,3,22,23,24] (k+1) ⟨hkl,by rw [hst];simp only [okA,decide_eq_true_eq];omega⟩ (by omega) rfl
         ·have hbad:okA fin.length (al.getD k default)=false:=by simp only [okA,decide_eq_false_iff_not];omega
          repeat (first|refine ag ?_|refine aK ?_|refine aV ?_|refine af ?_|refine ji (by rfl) (by rfl) jm ?_|refine aN ?_|refine aI ?_|refine au ?_|refine ah ?_|refine ae ?_|refine jK (by rfl) ?_|refine aJ ?_)
          refine ax ?_
          simp [dA,hd,jL hkl hbad]
       ·rw [decide_eq_false i0]
        refine ⟨bF,_,_,_,_,_,gq,(by decide),bC,?_⟩
        by_cases i1:(al.getD k default).i = -1
        ·repeat (first|refine ag ?_|refine aK ?_|refine aV ?_|refine ji (by rfl) (by rfl) jm ?_|refine aN ?_|refine aI ?_|refine jK (by rfl) ?_|refine aJ ?_)
         refine bI bD cO (pI (al.getD k default).o) ?_
         rintro _ rfl
         by_cases o0:0<=(al.getD k default).o/\(al.getD k default).o<64
         ·rw [decide_eq_true o0]
          refine ⟨bF,_,_,_,_,_,gq,(by decide),bC,?_⟩
          repeat (first|refine ag ?_|refine aK ?_|refine bV ?_|refine af ?_|refine aI ?_|refine bu ?_|refine ak ?_|refine ae ?_|refine fE ?_|refine aF ?_|refine iY (by rfl) ?_)
          exact dm [1,3,22,23,24] (k+1) ⟨hkl,by rw [hst];simp only [okA,decide_eq_true_eq];omega⟩ (by omega) rfl
         ·rw [decide_eq_false o0]
          refine ⟨bF,_,_,_,_,_,gq,(by decide),bC,?_⟩
          by_cases o1:(al.getD k default).o = -1
          ·repeat (first|refine ag ?_|refine aK ?_|refine aV ?_|refine af ?_|refine ji (by rfl) (by rfl) jm ?_|refine aN ?_|refine aI ?_|refine bu ?_|refine ak ?_|refine ae ?_|refine fE ?_|refine aF ?_|refine jK (by rfl) ?_|refine aJ ?_)
           exact dm [1,3,22,23,24] (k+1) ⟨hkl,by rw [hst];simp only [okA,decide_eq_true_eq];omega⟩ (by omega) rfl
          ·have hbad:okA fin.length (al.getD k default)=false:=by simp only [okA,decide_eq_false_iff_not];omega
           repeat (first|refine ag ?_|refine aK ?_|refine aV ?_|refine af ?_|refine ji (by rfl) (by rfl) jm ?_|refine aN ?_|refine aI ?_|refine au ?_|refine ah ?_|refine ae ?_|refine jK (by rfl) ?_|refine aJ ?_)
           refine ax ?_
           simp [dA,hd,jL hkl hbad]
        ·have hbad:okA fin.length (al.getD k default)=false:=by simp only [okA,decide_eq_false_iff_not];omega
         repeat (first|refine ag ?_|refine aK ?_|refine bV ?_|refine aV ?_|refine af ?_|refine ji (by rfl) (by rfl) jm ?_|refine aN ?_|refine aI ?_|refine au ?_|refine ah ?_|refine ae ?_|refine BB (by rfl) (by rfl) ?_|refine jK (by rfl) ?_|refine aJ ?_)
         refine ax ?_
         simp [dA,hd,jL hkl hbad]
      ·have hbad:okA fin.length (al.getD k default)=false:=by simp only [okA,decide_eq_false_iff_not];omega
       repeat (first|refine ag ?_|refine aK ?_|refine bV ?_|refine aZ ?_|refine aV ?_|refine af ?_|refine az ?_|refine aN ?_|refine aI ?_|refine au ?_|refine ah ?_|refine ae ?_|refine aH ?_|refine aF ?_|refine BB (by rfl) (by rfl) ?_|refine mF (by rfl) (by rfl) lw ?_|refine aJ ?_|refine bG ?_|refine dG ?_|refine bP dI ?_)
       refine ax ?_
       simp [dA,hd,jL hkl hbad]
     ·have hbad:okA fin.length (al.getD k default)=false:=by simp only [okA,decide_eq_false_iff_not];omega
      repeat (first|refine ag ?_|refine aK ?_|refine bV ?_|refine aZ ?_|refine aV ?_|refine af ?_|refine az ?_|refine aN ?_|refine aI ?_|refine au ?_|refine ah ?_|refine ae ?_|refine aH ?_|refine aF ?_|refine BB (by rfl) (by rfl) ?_|refine mF (by rfl) (by rfl) lw ?_|refine aJ ?_|refine bG ?_|refine dG ?_|refine bP dI ?_)
      refine ax ?_
      simp [dA,hd,jL hkl hbad]
    ·have hbad:okA fin.length (al.getD k default)=false:=by simp only [okA,decide_eq_false_iff_not];omega
     repeat (first|refine ag ?_|refine aK ?_|refine bV ?_|refine aZ ?_|refine aV ?_|refine af ?_|refine az ?_|refine aN ?_|refine aI ?_|refine au ?_|refine ah ?_|refine ae ?_|refine aH ?_|refine aF ?_|refine BB (by rfl) (by rfl) ?_|refine mF (by rfl) (by rfl) lw ?_|refine aJ ?_|refine bG ?_|refine dG ?_|refine bP dI ?_)
     refine ax ?_
     simp [dA,hd,jL hkl hbad]
   ·have hbad:okA fin.length (al.getD k default)=false:=by simp only [okA,decide_eq_false_iff_not];omega
    repeat (first|refine ag ?_|refine bV ?_|refine aZ ?_|refine aV ?_|refine af ?_|refine az ?_|refine aN ?_|refine au ?_|refine ah ?_|refine ae ?_|refine aH ?_|refine aF ?_|refine BB (by rfl) (by rfl) ?_|refine aJ ?_|refine bG ?_|refine dG ?_|refine bP dI ?_)
    refine ax ?_
    simp [dA,hd,jL hkl hbad]
  ·obtain rfl:k=al.length:=by omega
   rw [List.take_length] at hall
   repeat (first|refine ag ?_|refine af ?_|refine az ?_|refine bK (by rfl) ?_|refine ak ?_|refine ah ?_|refine ae ?_)
   refine ax ?_
   simp [dA,hd,hall]
 ·have hd:okF fin al=false:=by simp only [okF,decide_eq_false hb,Bool.false_and]
  by_cases h1:1<=fin.length
  ·by_cases h2:fin.length<=2048
   ·have h3:¬ al.length<=8192:=fun h=>hb ⟨h1,h2,h⟩
    repeat (first|refine ag ?_|refine aK ?_|refine aV ?_|refine af ?_|refine az ?_|refine aI ?_|refine bY (by rfl) ?_|refine au ?_|refine ah ?_|refine ae ?_|refine bU ?_|refine aJ ?_|refine fC ?_)
    refine ax ?_
    simp [dA,hd]
   ·repeat (first|refine ag ?_|refine aK ?_|refine bV ?_|refine aV ?_|refine af ?_|refine az ?_|refine aN ?_|refine aI ?_|refine bY (by rfl) ?_|refine au ?_|refine ah ?_|refine ae ?_|refine bU ?_|refine aJ ?_|refine fC ?_)
    refine ax ?_
    simp [dA,hd]
  ·repeat (first|refine ag ?_|refine bV ?_|refine aV ?_|refine af ?_|refine az ?_|refine aN ?_|refine bY (by rfl) ?_|refine au ?_|refine ah ?_|refine ae ?_|refine aJ ?_|refine fC ?_)
   refine ax ?_
   simp [dA,hd]
end Go.Proofs.Ytlbdmpjnmfmnfaa
