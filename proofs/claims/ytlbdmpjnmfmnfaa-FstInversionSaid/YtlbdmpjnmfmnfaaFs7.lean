import Derived.Test.YtlbdmpjnmfmnfaaFs6
import Derived.Test.YtlbdmpjnmfmnfaaFsB
set_option linter.unusedSimpArgs false
set_option linter.unusedVariables false
namespace Go.Proofs.Ytlbdmpjnmfmnfaa
open Go.RowKit Go.HL Go.FS
def vI (x:Int):Bool:=!decide (0<=x/\x<64)
theorem Nq (x:Int):HT Try.prog 78 [.int .i64 x] (fun r=>r=.bool (vI x)):=by
 refine HT.of rfl Xi (Nat.le_of_ble_eq_true rfl) ?_
 unfold XO
 simp only [aS,Nat.reduceAdd]
 repeat (first|refine ag ?_|refine af ?_|refine ah ?_|refine ae ?_)
 refine bI bD cO (pI x) ?_
 rintro _ rfl
 refine ⟨bF,_,_,_,_,_,gq,(by decide),bC,?_⟩
 repeat (first|refine ag ?_|refine af ?_|refine JB (by rfl) (by (try simp only [go_sem,reduceIte]);try rfl) ?_)
 refine ax ?_
 rfl
theorem Ns (l:List Int) (hl:l.length<=9223372036854775807):HT Try.prog 105 [.sl l.length (HL.ints l),.fn 78 []] (fun r=>∃z:Int,r=.int .i64 z/\(0<=z <-> l.any vI=true)):=by
 refine HT.of rfl Wq (Nat.le_of_ble_eq_true rfl) ?_
 unfold c105
 simp only [aS,Nat.reduceAdd]
 repeat (first|refine ag ?_|refine af ?_|refine bY (by rfl) ?_|refine ah ?_|refine ae ?_|refine aH ?_)
 refine cu [0,1,7,8] (fun k:Nat=>k<=l.length/\(l.take k).any vI=false)
  (fun k=>⟨[(0,.sl l.length (HL.ints l)),(1,.fn 78 []),(7,.int .i64 l.length),(8,.int .i64 k)],[],0⟩)
  (fun k=>l.length - k) 0 ⟨by omega,by simp⟩ rfl ?_
 rintro k ⟨hk,hno⟩
 by_cases hkl:k<l.length
 ·have htk:=dC hkl
  repeat (first|refine ag ?_|refine aZ ?_|refine dP ?_|refine af ?_|refine az ?_|refine au ?_|refine ah ?_|refine ae ?_|refine aH ?_|refine aF ?_)
  refine EC (by rfl) bD cO (Nq (l.getD k 0)) ?_
  rintro _ rfl
  cases hp:vI (l.getD k 0)
  ·refine ⟨bF,_,_,_,_,_,gq,(by decide),bC,?_⟩
   repeat (first|refine ag ?_|refine af ?_|refine bu ?_|refine ak ?_|refine ae ?_|refine fE ?_|refine aF ?_)
   exact dm [0,1,7,8] (k+1) ⟨hkl,by rw [htk,List.any_append,hno];simp only [List.any_cons,List.any_nil,Bool.or_false,Bool.false_or];exact hp⟩ (by omega) rfl
  ·refine ⟨bF,_,_,_,_,_,gq,(by decide),bC,?_⟩
   repeat (first|refine ag ?_|refine af ?_|refine au ?_|refine ah ?_|refine ae ?_)
   refine ax ?_
   exact ⟨_,rfl,fun _=>List.any_eq_true.2 ⟨l.getD k 0,by rw [List.getD_eq_getElem?_getD,List.getElem?_eq_getElem hkl];exact List.getElem_mem _,hp⟩,fun _=>by omega⟩
 ·obtain rfl:k=l.length:=by omega
  rw [List.take_length] at hno
  repeat (first|refine ag ?_|refine af ?_|refine az ?_|refine bK (by rfl) ?_|refine ak ?_|refine ah ?_|refine ae ?_)
  refine ax ?_
  exact ⟨_,rfl,fun h=>absurd h (by decide),fun h=>by rw [hno] at h;cases h⟩
theorem Ec (l:List Int) (hl:l.length<=9223372036854775807):HT Try.prog 79 [.sl l.length (HL.ints l),.fn 78 []] (fun r=>r=.bool (l.any vI)):=by
 refine HT.of rfl Xc (Nat.le_of_ble_eq_true rfl) ?_
 unfold XP
 simp only [aS,Nat.reduceAdd]
 repeat (first|refine ag ?_|refine af ?_|refine ah ?_|refine ae ?_)
 refine bI bD cO (Ns l hl) ?_
 rintro _ ⟨z,rfl,hz⟩
 refine ⟨bF,_,_,_,_,_,gq,(by decide),bC,?_⟩
 by_cases h0:0<=z
 ·repeat (first|refine ag ?_|refine af ?_|refine mF (by rfl) (by rfl) lw ?_)
  refine ax ?_
  simp [dA,hz.1 h0,h0]
 ·have:l.any vI=false:=by
   cases h:l.any vI
   ·rfl
   ·exact absurd (hz.2 h) h0
  rw [this]
  repeat (first|refine ag ?_|refine af ?_|refine mF (by rfl) (by rfl) lw ?_)
  refine ax ?_
  simp [dA,h0]
theorem KO (l:List Int) (i:Nat) (hl:l.length<=9223372036854775807):HT Try.prog 80 [.sl l.length (HL.ints l),.int .i64 i] (fun r=>r=.int .i64 (l.getD i (-1))):=by
 refine HT.of rfl Xm (Nat.le_of_ble_eq_true rfl) ?_
 unfold c80
 simp only [aS,Nat.reduceAdd]
 by_cases h:i<l.length
 ·repeat (first|refine ag ?_|refine aZ ?_|refine dP ?_|refine af ?_|refine az ?_|refine bY (by rfl) ?_|refine au ?_|refine ah ?_|refine ae ?_)
  refine ax ?_
  simp [dA,h]
 ·repeat (first|refine ag ?_|refine af ?_|refine az ?_|refine bY (by rfl) ?_|refine ak ?_|refine ah ?_|refine ae ?_|refine aF ?_)
  refine ax ?_
  simp [dA,h]
end Go.Proofs.Ytlbdmpjnmfmnfaa
