import Derived.Test.YtlbdmpjnmfmnfaaFsD
import Derived.Test.YtlbdmpjnmfmnfaaFsH
import Derived.Test.YtlbdmpjnmfmnfaaFsJ
set_option linter.unusedSimpArgs false
set_option linter.unusedVariables false
namespace Go.Proofs.Ytlbdmpjnmfmnfaa
open Go.RowKit Go.HL Go.FS
theorem JD (fin:List Bool) (al:List A) (w:List Int) (x:Nd) (h0:0<=x.1) (h1:x.1<fin.length) (hw:w.length<=1024):HT Try.prog 57 [.agg [.int .i64 x.1,.int .i64 x.2],.ptr [.sl w.length (HL.ints w)] 0,.ptr (gQ fin al) 0] (fun r=>r=.bool (sV fin w x)):=by
 refine HT.of rfl WX (Nat.le_of_ble_eq_true rfl) ?_
 unfold XY
 simp only [aS,Nat.reduceAdd,gQ,jC]
 by_cases h:x.2=w.length
 ·repeat (first|refine ag ?_|refine aK ?_|refine aZ ?_|refine dP ?_|refine aV ?_|refine af ?_|refine bQ ?_|refine aN ?_|refine bY (by rfl) ?_|refine ah ?_|refine ae ?_|refine dw ?_|refine aJ ?_|refine fC ?_)
  refine ax ?_
  simp [dA,sV,h]
 ·repeat (first|refine ag ?_|refine bV ?_|refine dP ?_|refine aV ?_|refine af ?_|refine bQ ?_|refine aI ?_|refine bY (by rfl) ?_|refine ah ?_|refine ae ?_|refine aJ ?_|refine fC ?_)
  refine ax ?_
  simp [dA,sV,h]
theorem JX (fin:List Bool) (al:List A) (w:List Int) (l:List Nd) (hin:∀x∈l,H5 fin.length w x) (hw:w.length<=1024) (hl:l.length<=100000000):HT Try.prog 100 [.sl l.length (qX l),.fn 57 [.ptr [.sl w.length (HL.ints w)] 0,.ptr (gQ fin al) 0]] (fun r=>∃z:Int,r=.int .i64 z/\(0<=z <-> l.any (sV fin w)=true)):=by
 refine HT.of rfl U0 (Nat.le_of_ble_eq_true rfl) ?_
 unfold Vb
 simp only [aS,Nat.reduceAdd]
 repeat (first|refine ag ?_|refine af ?_|refine bY (by rfl) ?_|refine ah ?_|refine ae ?_|refine aH ?_)
 refine cu [0,1,7,8] (fun k:Nat=>k<=l.length/\(l.take k).any (sV fin w)=false)
  (fun k=>⟨[(0,.sl l.length (qX l)),(1,.fn 57 [.ptr [.sl w.length (HL.ints w)] 0,.ptr (gQ fin al) 0]),(7,.int .i64 l.length),(8,.int .i64 k)],[],0⟩)
  (fun k=>l.length - k) 0 ⟨by omega,by simp⟩ rfl ?_
 rintro k ⟨hk,hno⟩
 by_cases hkl:k<l.length
 ·have hm:l.getD k default∈l:=by rw [List.getD_eq_getElem?_getD,List.getElem?_eq_getElem hkl];exact List.getElem_mem _
  obtain ⟨g1,g2,_,_⟩:=hin _ hm
  have htk:=dC hkl
  repeat (first|refine ag ?_|refine aZ ?_|refine af ?_|refine az ?_|refine au ?_|refine ah ?_|refine ae ?_|refine aH ?_|refine aF ?_|refine bG ?_)
  refine EC (by rfl) bD cO (JD fin al w (l.getD k default) g1 g2 hw) ?_
  rintro _ rfl
  cases hp:sV fin w (l.getD k default)
  ·refine ⟨bF,_,_,_,_,_,gq,(by decide),bC,?_⟩
   repeat (first|refine ag ?_|refine af ?_|refine bu ?_|refine ak ?_|refine ae ?_|refine fE ?_|refine aF ?_)
   exact dm [0,1,7,8] (k+1) ⟨hkl,by rw [htk,List.any_append,hno];simp only [List.any_cons,List.any_nil,hp];rfl⟩ (by omega) rfl
  ·refine ⟨bF,_,_,_,_,_,gq,(by decide),bC,?_⟩
   repeat (first|refine ag ?_|refine af ?_|refine au ?_|refine ah ?_|refine ae ?_)
   refine ax ?_
   exact ⟨_,rfl,fun _=>List.any_eq_true.2 ⟨_,hm,hp⟩,fun _=>by omega⟩
 ·obtain rfl:k=l.length:=by omega
  rw [List.take_length] at hno
  repeat (first|refine ag ?_|refine af ?_|refine az ?_|refine bK (by rfl) ?_|refine ak ?_|refine ah ?_|refine ae ?_)
  refine ax ?_
  exact ⟨_,rfl,fun h=>absurd h (by decide),fun h=>by rw [hno] at h;cases h⟩
theorem Gp (fin:List Bool) (al:List A) (w:List Int) (l:List Nd) (hin:∀x∈l,H5 fin.length w x) (hw:w.length<=1024) (hl:l.length<=100000000):HT Try.prog 56 [.sl l.length (qX l),.fn 57 [.ptr [.sl w.length (HL.ints w)] 0,.ptr (gQ fin al) 0]] (fun r=>r=.bool (l.any (sV fin w))):=by
 refine HT.of rfl Xl (Nat.le_of_ble_eq_true rfl) ?_
 unfold X8
 simp only [aS,Nat.reduceAdd]
 repeat (first|refine ag ?_|refine af ?_|refine ah ?_|refine ae ?_)
 refine bI bD cO (JX fin al w l hin hw hl) ?_
 rintro _ ⟨z,rfl,hz⟩
 refine ⟨bF,_,_,_,_,_,gq,(by decide),bC,?_⟩
 by_cases h0:0<=z
 ·repeat (first|refine ag ?_|refine af ?_|refine mF (by rfl) (by rfl) lw ?_)
  refine ax ?_
  simp [dA,hz.1 h0,h0]
 ·have:l.any (sV fin w)=false:=by
   cases h:l.any (sV fin w)
   ·rfl
   ·exact absurd (hz.2 h) h0
  rw [this]
  repeat (first|refine ag ?_|refine af ?_|refine mF (by rfl) (by rfl) lw ?_)
  refine ax ?_
  simp [dA,h0]
end Go.Proofs.Ytlbdmpjnmfmnfaa
