import Derived.Test.YtlbdmpjnmfmnfaaFsN
set_option linter.unusedSimpArgs false
set_option linter.unusedVariables false
namespace Go.Proofs.Ytlbdmpjnmfmnfaa
open Go.RowKit Go.HL Go.FS
set_option maxHeartbeats 8000000 in
theorem ul (fin:List Bool) (al:List A) (hf:fin.length<=9223372036854775807) (ha:al.length<=9223372036854775807):HT Try.prog 27 [.agg (fA fin al)] (fun r=>r=.bool (okF fin al)):=by
 refine HT.of rfl aay (Nat.le_of_ble_eq_true rfl) ?_
 unfold c27
 simp only [aW,Nat.reduceAdd,fA,iw]
 by_cases hb:1<=fin.length/\fin.length<=2048/\al.length<=8192
 ·obtain ⟨h1,h2,h3⟩:=hb
  have hd:okF fin al=al.all (okA fin.length):=by simp [okF,h1,h2,h3]
  repeat (first|refine ah ?_|refine aN ?_|refine aU ?_|refine af ?_|refine az ?_|refine aP ?_|refine aI ?_|refine ax ?_|refine au ?_|refine ae ?_|refine aA ?_|refine aF ?_|refine bV ?_|refine aB ?_|refine dD ?_)
  refine bW [1,3,4] (fun k:Nat=>k<=al.length/\(al.take k).all (okA fin.length)=true)
   (fun k=>⟨[(1,.pref 0 [] 0),(3,.int .i64 fin.length),(4,.int .i64 k)],[(0,.optr [.sl fin.length (HL.bools fin),.sl al.length (recs aC al)])],1⟩)
   (fun k=>al.length - k) 0 ⟨by omega,by simp⟩ rfl ?_
  rintro k ⟨hk,hall⟩
  by_cases hkl:k<al.length
  ·have hst:=AZ (n:=fin.length) hkl
   rw [hall,Bool.true_and] at hst
   by_cases b0:(al.getD k default).f<0
   ·have hbad:okA fin.length (al.getD k default)=false:=by simp only [okA,decide_eq_false_iff_not];omega
    repeat (first|refine ah ?_|refine dn ?_|refine aO ?_|refine aU ?_|refine af ?_|refine az ?_|refine aV ?_|refine aI ?_|refine ak ?_|refine au ?_|refine ae ?_|refine aA ?_|refine aF ?_|refine aB ?_|refine aZ ?_|refine cZ ?_|refine bG dS ?_)
    refine ay ?_
    simp [dw,hd,gW hkl hbad]
   by_cases b1:(fin.length:Int)<=(al.getD k default).f
   ·have hbad:okA fin.length (al.getD k default)=false:=by simp only [okA,decide_eq_false_iff_not];omega
    repeat (first|refine ah ?_|refine aN ?_|refine dn ?_|refine aO ?_|refine aU ?_|refine af ?_|refine az ?_|refine aV ?_|refine aP ?_|refine aI ?_|refine ak ?_|refine au ?_|refine ae ?_|refine aA ?_|refine aF ?_|refine dP ?_|refine aB ?_|refine aZ ?_|refine cZ ?_|refine bG dS ?_)
    refine ay ?_
    simp [dw,hd,gW hkl hbad]
   by_cases b2:(al.getD k default).t<0
   ·have hbad:okA fin.length (al.getD k default)=false:=by simp only [okA,decide_eq_false_iff_not];omega
    repeat (first|refine ah ?_|refine aN ?_|refine dn ?_|refine aO ?_|refine aU ?_|refine af ?_|refine az ?_|refine aV ?_|refine aP ?_|refine aI ?_|refine ak ?_|refine au ?_|refine ae ?_|refine aA ?_|refine aF ?_|refine dP ?_|refine aB ?_|refine aZ ?_|refine cZ ?_|refine bG dS ?_)
    refine ay ?_
    simp [dw,hd,gW hkl hbad]
   by_cases b3:(fin.length:Int)<=(al.getD k default).t
   ·have hbad:okA fin.length (al.getD k default)=false:=by simp only [okA,decide_eq_false_iff_not];omega
    repeat (first|refine ah ?_|refine aN ?_|refine dn ?_|refine aO ?_|refine aU ?_|refine af ?_|refine az ?_|refine aV ?_|refine aP ?_|refine aI ?_|refine ak ?_|refine au ?_|refine ae ?_|refine aA ?_|refine aF ?_|refine dP ?_|refine aB ?_|refine aZ ?_|refine cZ ?_|refine bG dS ?_)
    refine ay ?_
    simp [dw,hd,gW hkl hbad]
   by_cases b4:(al.getD k default).i < -1
   ·have hbad:okA fin.length (al.getD k default)=false:=by simp only [okA,decide_eq_false_iff_not];omega
    repeat (first|refine ah ?_|refine aN ?_|refine dn ?_|refine aO ?_|refine aU ?_|refine af ?_|refine az ?_|refine aV ?_|refine aP ?_|refine aI ?_|refine ak ?_|refine au ?_|refine ae ?_|refine aA ?_|refine aF ?_|refine dP ?_|refine aB ?_|refine aZ ?_|refine cZ ?_|refine bG dS ?_)
    refine ay ?_
    simp [dw,hd,gW hkl hbad]
   by_cases b5:63<(al.getD k default).i
   ·have hbad:okA fin.length (al.getD k default)=false:=by simp only [okA,decide_eq_false_iff_not];omega
    repeat (first|refine ah ?_|refine aN ?_|refine dn ?_|refine aO ?_|refine aU ?_|refine af ?_|refine az ?_|refine aV ?_|refine aP ?_|refine aI ?_|refine ak ?_|refine au ?_|refine ae ?_|refine aA ?_|refine aF ?_|refine bV ?_|refine dP ?_|refine aB ?_|refine aZ ?_|refine cZ ?_|refine bG dS ?_)
    refine ay ?_
    simp [dw,hd,gW hkl hbad]
   by_cases b6:(al.getD k default).o < -1
   ·have hbad:okA fin.length (al.getD k default)=false:=by simp only [okA,decide_eq_false_iff_not];omega
    repeat (first|refine ah ?_|refine aN ?_|refine dn ?_|refine aO ?_|refine aU ?_|refine af ?_|refine az ?_|refine aV ?_|refine aP ?_|refine aI ?_|refine ak ?_|refine au ?_|refine ae ?_|refine aA ?_|refine aF ?_|refine bV ?_|refine dP ?_|refine aB ?_|refine aZ ?_|refine cZ ?_|refine bG dS ?_)
    refine ay ?_
    simp [dw,hd,gW hkl hbad]
   by_cases b7:63<(al.getD k default).o
   ·have hbad:okA fin.length (al.getD k default)=false:=by simp only [okA,decide_eq_false_iff_not];omega
    repeat (first|refine ah ?_|refine aN ?_|refine aO ?_|refine aU ?_|refine af ?_|refine az ?_|refine aP ?_|refine aI ?_|refine ak ?_|refine au ?_|refine ae ?_|refine aA ?_|refine aF ?_|refine bV ?_|refine dP ?_|refine aB ?_|refine aZ ?_|refine cZ ?_|refine bG dS ?_)
    refine ay ?_
    simp [dw,hd,gW hkl hbad]
   repeat (first|refine ah ?_|refine aN ?_|refine aO ?_|refine aU ?_|refine af ?_|refine az ?_|refine aP ?_|refine bY ?_|refine aI ?_|refine ak ?_|refine ax ?_|refine au ?_|refine ae ?_|refine aA ?_|refine dL ?_|refine aF ?_|refine bV ?_|refine dP ?_|refine aB ?_|refine aZ ?_|refine cZ ?_|refine bG dS ?_)
   exact dm [1,3,4] (k+1) ⟨hkl,by rw [hst];simp only [okA,decide_eq_true_eq];omega⟩ (by omega) rfl
  ·obtain rfl:k=al.length:=by omega
   rw [List.take_length] at hall
   repeat (first|refine ah ?_|refine aU ?_|refine af ?_|refine az ?_|refine aI ?_|refine bQ (by rfl) ?_|refine ax ?_|refine au ?_|refine ae ?_|refine aB ?_)
   refine ay ?_
   simp [dw,hd,hall]
 ·have hd:okF fin al=false:=by simp only [okF,decide_eq_false hb,Bool.false_and]
  by_cases h1:1<=fin.length
  ·by_cases h2:fin.length<=2048
   ·have h3:¬ al.length<=8192:=fun h=>hb ⟨h1,h2,h⟩
    repeat (first|refine ah ?_|refine aN ?_|refine aU ?_|refine af ?_|refine az ?_|refine aP ?_|refine aI ?_|refine ak ?_|refine au ?_|refine ae ?_|refine bV ?_|refine aB ?_|refine dD ?_)
    refine ay ?_
    simp [dw,hd]
   ·repeat (first|refine ah ?_|refine aN ?_|refine dn ?_|refine aU ?_|refine af ?_|refine az ?_|refine aV ?_|refine aP ?_|refine aI ?_|refine ak ?_|refine au ?_|refine ae ?_|refine bV ?_|refine aB ?_|refine dD ?_)
    refine ay ?_
    simp [dw,hd]
  ·repeat (first|refine ah ?_|refine dn ?_|refine aU ?_|refine af ?_|refine az ?_|refine aV ?_|refine aI ?_|refine ak ?_|refine au ?_|refine ae ?_|refine aB ?_|refine dD ?_)
   refine ay ?_
   simp [dw,hd]
end Go.Proofs.Ytlbdmpjnmfmnfaa
