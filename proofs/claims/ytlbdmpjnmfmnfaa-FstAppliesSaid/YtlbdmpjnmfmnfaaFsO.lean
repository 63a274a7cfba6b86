import Derived.Test.YtlbdmpjnmfmnfaaFsN
set_option linter.unusedSimpArgs false
set_option linter.unusedVariables false
namespace Go.Proofs.Ytlbdmpjnmfmnfaa
open Go.RowKit Go.HL Go.FS
set_option maxHeartbeats 8000000 in
theorem y5 (fin:List Bool) (al:List A) (hf:fin.length<=9223372036854775807) (ha:al.length<=9223372036854775807):HT Try.prog 27 [.agg (fK fin al)] (fun r=>r=.bool (okF fin al)):=by
 refine HT.of rfl abV (Nat.le_of_ble_eq_true rfl) ?_
 unfold c27
 simp only [aX,Nat.reduceAdd,fK,gX]
 by_cases hb:1<=fin.length/\fin.length<=2048/\al.length<=8192
 ·obtain ⟨h1,h2,h3⟩:=hb
  have hd:okF fin al=al.all (okA fin.length):=by simp [okF,h1,h2,h3]
  repeat (first|refine ah ?_|refine aO ?_|refine aS ?_|refine af ?_|refine ay ?_|refine aN ?_|refine aB ?_|refine ax ?_|refine au ?_|refine ae ?_|refine aA ?_|refine aH ?_|refine bI ?_|refine aF ?_|refine di ?_)
  refine bQ [1,3,4] (fun k:Nat=>k<=al.length/\(al.take k).all (okA fin.length)=true)
   (fun k=>⟨[(1,.pref 0 [] 0),(3,.int .i64 fin.length),(4,.int .i64 k)],[(0,.optr [.sl fin.length (HL.bools fin),.sl al.length (recs aC al)])],1⟩)
   (fun k=>al.length - k) 0 ⟨by omega,by simp⟩ rfl ?_
  rintro k ⟨hk,hall⟩
  by_cases hkl:k<al.length
  ·have hst:=CJ (n:=fin.length) hkl
   rw [hall,Bool.true_and] at hst
   by_cases b0:(al.getD k default).f<0
   ·have hbad:okA fin.length (al.getD k default)=false:=by simp only [okA,decide_eq_false_iff_not];omega
    repeat (first|refine ah ?_|refine cu ?_|refine aJ ?_|refine aS ?_|refine af ?_|refine ay ?_|refine aK ?_|refine aB ?_|refine ak ?_|refine au ?_|refine ae ?_|refine aA ?_|refine aH ?_|refine aF ?_|refine bz ?_|refine dn ?_|refine bU dN ?_)
    refine az ?_
    simp [dJ,hd,gZ hkl hbad]
   by_cases b1:(fin.length:Int)<=(al.getD k default).f
   ·have hbad:okA fin.length (al.getD k default)=false:=by simp only [okA,decide_eq_false_iff_not];omega
    repeat (first|refine ah ?_|refine aO ?_|refine cu ?_|refine aJ ?_|refine aS ?_|refine af ?_|refine ay ?_|refine aK ?_|refine aN ?_|refine aB ?_|refine ak ?_|refine au ?_|refine ae ?_|refine aA ?_|refine aH ?_|refine dh ?_|refine aF ?_|refine bz ?_|refine dn ?_|refine bU dN ?_)
    refine az ?_
    simp [dJ,hd,gZ hkl hbad]
   by_cases b2:(al.getD k default).t<0
   ·have hbad:okA fin.length (al.getD k default)=false:=by simp only [okA,decide_eq_false_iff_not];omega
    repeat (first|refine ah ?_|refine aO ?_|refine cu ?_|refine aJ ?_|refine aS ?_|refine af ?_|refine ay ?_|refine aK ?_|refine aN ?_|refine aB ?_|refine ak ?_|refine au ?_|refine ae ?_|refine aA ?_|refine aH ?_|refine dh ?_|refine aF ?_|refine bz ?_|refine dn ?_|refine bU dN ?_)
    refine az ?_
    simp [dJ,hd,gZ hkl hbad]
   by_cases b3:(fin.length:Int)<=(al.getD k default).t
   ·have hbad:okA fin.length (al.getD k default)=false:=by simp only [okA,decide_eq_false_iff_not];omega
    repeat (first|refine ah ?_|refine aO ?_|refine cu ?_|refine aJ ?_|refine aS ?_|refine af ?_|refine ay ?_|refine aK ?_|refine aN ?_|refine aB ?_|refine ak ?_|refine au ?_|refine ae ?_|refine aA ?_|refine aH ?_|refine dh ?_|refine aF ?_|refine bz ?_|refine dn ?_|refine bU dN ?_)
    refine az ?_
    simp [dJ,hd,gZ hkl hbad]
   by_cases b4:(al.getD k default).i < -1
   ·have hbad:okA fin.length (al.getD k default)=false:=by simp only [okA,decide_eq_false_iff_not];omega
    repeat (first|refine ah ?_|refine aO ?_|refine cu ?_|refine aJ ?_|refine aS ?_|refine af ?_|refine ay ?_|refine aK ?_|refine aN ?_|refine aB ?_|refine ak ?_|refine au ?_|refine ae ?_|refine aA ?_|refine aH ?_|refine dh ?_|refine aF ?_|refine bz ?_|refine dn ?_|refine bU dN ?_)
    refine az ?_
    simp [dJ,hd,gZ hkl hbad]
   by_cases b5:63<(al.getD k default).i
   ·have hbad:okA fin.length (al.getD k default)=false:=by simp only [okA,decide_eq_false_iff_not];omega
    repeat (first|refine ah ?_|refine aO ?_|refine cu ?_|refine aJ ?_|refine aS ?_|refine af ?_|refine ay ?_|refine aK ?_|refine aN ?_|refine aB ?_|refine ak ?_|refine au ?_|refine ae ?_|refine aA ?_|refine aH ?_|refine bI ?_|refine dh ?_|refine aF ?_|refine bz ?_|refine dn ?_|refine bU dN ?_)
    refine az ?_
    simp [dJ,hd,gZ hkl hbad]
   by_cases b6:(al.getD k default).o < -1
   ·have hbad:okA fin.length (al.getD k default)=false:=by simp only [okA,decide_eq_false_iff_not];omega
    repeat (first|refine ah ?_|refine aO ?_|refine cu ?_|refine aJ ?_|refine aS ?_|refine af ?_|refine ay ?_|refine aK ?_|refine aN ?_|refine aB ?_|refine ak ?_|refine au ?_|refine ae ?_|refine aA ?_|refine aH ?_|refine bI ?_|refine dh ?_|refine aF ?_|refine bz ?_|refine dn ?_|refine bU dN ?_)
    refine az ?_
    simp [dJ,hd,gZ hkl hbad]
   by_cases b7:63<(al.getD k default).o
   ·have hbad:okA fin.length (al.getD k default)=false:=by simp only [okA,decide_eq_false_iff_not];omega
    repeat (first|refine ah ?_|refine aO ?_|refine aJ ?_|refine aS ?_|refine af ?_|refine ay ?_|refine aN ?_|refine aB ?_|refine ak ?_|refine au ?_|refine ae ?_|refine aA ?_|refine aH ?_|refine bI ?_|refine dh ?_|refine aF ?_|refine bz ?_|refine dn ?_|refine bU dN ?_)
    refine az ?_
    simp [dJ,hd,gZ hkl hbad]
   repeat (first|refine ah ?_|refine aO ?_|refine aJ ?_|refine aS ?_|refine af ?_|refine ay ?_|refine aN ?_|refine bf ?_|refine aB ?_|refine ak ?_|refine ax ?_|refine au ?_|refine ae ?_|refine aA ?_|refine dH ?_|refine aH ?_|refine bI ?_|refine dh ?_|refine aF ?_|refine bz ?_|refine dn ?_|refine bU dN ?_)
   exact bZ [1,3,4] (k+1) ⟨hkl,by rw [hst];simp only [okA,decide_eq_true_eq];omega⟩ (by omega) rfl
  ·obtain rfl:k=al.length:=by omega
   rw [List.take_length] at hall
   repeat (first|refine ah ?_|refine aS ?_|refine af ?_|refine ay ?_|refine aB ?_|refine bD (by rfl) ?_|refine ax ?_|refine au ?_|refine ae ?_|refine aF ?_)
   refine az ?_
   simp [dJ,hd,hall]
 ·have hd:okF fin al=false:=by simp only [okF,decide_eq_false hb,Bool.false_and]
  by_cases h1:1<=fin.length
  ·by_cases h2:fin.length<=2048
   ·have h3:¬ al.length<=8192:=fun h=>hb ⟨h1,h2,h⟩
    repeat (first|refine ah ?_|refine aO ?_|refine aS ?_|refine af ?_|refine ay ?_|refine aN ?_|refine aB ?_|refine ak ?_|refine au ?_|refine ae ?_|refine bI ?_|refine aF ?_|refine di ?_)
    refine az ?_
    simp [dJ,hd]
   ·repeat (first|refine ah ?_|refine aO ?_|refine cu ?_|refine aS ?_|refine af ?_|refine ay ?_|refine aK ?_|refine aN ?_|refine aB ?_|refine ak ?_|refine au ?_|refine ae ?_|refine bI ?_|refine aF ?_|refine di ?_)
    refine az ?_
    simp [dJ,hd]
  ·repeat (first|refine ah ?_|refine cu ?_|refine aS ?_|refine af ?_|refine ay ?_|refine aK ?_|refine aB ?_|refine ak ?_|refine au ?_|refine ae ?_|refine aF ?_|refine di ?_)
   refine az ?_
   simp [dJ,hd]
end Go.Proofs.Ytlbdmpjnmfmnfaa
