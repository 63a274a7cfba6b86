import Derived.Test.YtlbdmpjnmfmnfaaFs2
import Derived.Test.YtlbdmpjnmfmnfaaHlNv
import Derived.Test.YtlbdmpjnmfmnfaaFsB
section
set_option linter.unusedSimpArgs false
set_option linter.unusedVariables false
namespace Go.Proofs.Ytlbdmpjnmfmnfaa
open Go.RowKit Go.HL Go.FS
theorem H7 (l:List Bool) (h:0<l.length) (h2:l.length<=100000000):HT Try.prog 67 [.sl l.length (HL.bools l)] (fun r=>r=.osl 1 l.length (HL.bools l)):=by
 refine HT.of rfl abf (Nat.le_of_ble_eq_true rfl) ?_
 unfold c67
 simp only [aX,Nat.reduceAdd]
 repeat (first|refine ah ?_|refine af ?_|refine ax ?_|refine au ?_|refine ae ?_|refine aH ?_|refine aZ ?_|refine bP ?_|refine gz ?_|refine Md (by rfl) (by omega) ?_)
 refine az ?_
 rfl
def x8 (a:A):A:=⟨a.f,a.o,a.i,a.t⟩
def KJ (fin:List Bool) (al:List A):List Bool×List A:=if okF fin al=true then (fin,al.map x8) else ([],[])
set_option maxHeartbeats 8000000 in
theorem GM (fin:List Bool) (al:List A) (hf:fin.length<=9223372036854775807) (ha:al.length<=9223372036854775807):HT Try.prog 23 [.agg (fK fin al)] (fun r=>r=.agg (fK (KJ fin al).1 (KJ fin al).2)):=by
 refine HT.ofC rfl acd [2] rfl (Nat.le_of_ble_eq_true rfl) ?_
 unfold c23
 have hvd:=tJ fin al hf ha
 simp only [aX,Nat.reduceAdd]
 simp only [fK,gX] at hvd ⊢
 repeat (first|refine af ?_|refine au ?_|refine ae ?_|refine fU ?_|refine di ?_|refine bU dN ?_)
 refine dF bW dm (hvd) ?_
 rintro _ rfl
 by_cases hv:okF fin al=true
 ·have ht:KJ fin al=(fin,al.map x8):=if_pos hv
  rw [hv]
  refine ⟨cO,_,_,_,_,_,gY,(by decide),bT,?_⟩
  obtain ⟨h1,h2,h3⟩:=iF hv
  repeat (first|refine aS ?_|refine af ?_|refine ax ?_|refine au ?_|refine ae ?_|refine aH ?_|refine gI (by rfl) ?_|refine aF ?_)
  refine dF bW dm (H7 fin (by omega) (by omega)) ?_
  rintro _ rfl
  refine ⟨cO,_,_,_,_,_,gY,(by decide),bT,?_⟩
  repeat (first|refine ah ?_|refine aS ?_|refine af ?_|refine aB ?_|refine au ?_|refine ae ?_|refine aA ?_|refine aF ?_|refine dw ?_|refine bU dN ?_|refine dB ?_)
  refine gQ 144 [1,4] [2,3,15,16,17] (⟨[(2,.pref 0 [] 0),(3,.pref 1 [] 0),(15,.sl al.length (recs aC al)),(16,.int .i64 al.length),(17,.int .i64 0)],[(0,.optr [.nils,.nils]),(1,.optr [.osl 1 fin.length (HL.bools fin),.osl 4 0 []])],2⟩:St) rfl rfl ?_
  refine bQ [2,3,15,16,17] (fun k:Nat=>k<=al.length)
   (fun k=>⟨[(2,.pref 0 [] 0),(3,.pref 1 [] 0),(15,.sl al.length (recs aC al)),(16,.int .i64 al.length),(17,.int .i64 k)],[(0,.optr [.nils,.nils]),(1,.optr [.osl 1 fin.length (HL.bools fin),.osl 4 k (recs aC ((al.take k).map x8))])],2⟩)
   (fun k=>al.length - k) 0 (by omega) rfl ?_
  intro k hk
  by_cases hkl:k<al.length
  ·have hst:(al.take (k+1)).map x8=(al.take k).map x8++[x8 (al.getD k default)]:=by rw [dE hkl,List.map_append];rfl
   have hml:((al.take k).map x8).length=k:=by simp;omega
   generalize (al.take k).map x8=ml at hst hml
   repeat (first|refine ah ?_|refine aJ ?_|refine aS ?_|refine af ?_|refine ay ?_|refine bf ?_|refine ak ?_|refine au ?_|refine ae ?_|refine aA ?_|refine dH ?_|refine aH ?_|refine aF ?_|refine bz ?_|refine dn ?_|refine dw ?_|refine bP ?_|refine bU dN ?_|refine gz ?_|refine dB ?_)
   exact bZ [2,3,15,16,17] (k+1) hkl (by omega) (by simp only [hst,x8];rfl)
  ·obtain rfl:k=al.length:=by omega
   rw [List.take_length]
   refine bF 1 [2,3,16,17] ⟨[(2,.pref 0 [] 0),(3,.ptr (stripL [.osl 1 fin.length (HL.bools fin),.osl 4 al.length (recs aC (al.map x8))]) 0),(16,.int .i64 al.length),(17,.int .i64 al.length)],[(0,.optr [.nils,.nils])],1⟩ rfl ?_
   rw [jF]
   repeat (first|refine af ?_|refine ay ?_|refine bD (by rfl) ?_|refine ax ?_|refine au ?_|refine ae ?_|refine bz ?_|refine dw ?_)
   refine az ?_
   exact ⟨_,_,rfl,rfl,by rw [ht];simp only [fK,gX,List.length_map];rfl⟩
 ·have ht:KJ fin al=([],[]):=if_neg hv
  rw [show okF fin al=false by simpa using hv]
  refine ⟨cO,_,_,_,_,_,gY,(by decide),bT,?_⟩
  repeat (first|refine af ?_|refine ak ?_|refine au ?_|refine ae ?_|refine iG (by rfl) ?_|refine dw ?_|refine dB ?_)
  refine gQ 16 [1,4] [2] (⟨[(2,.pref 0 [] 0)],[(0,.optr [.osl 1 0 [],.osl 4 0 []])],1⟩:St) rfl rfl ?_
  refine nC 0 [2] ⟨[(2,.pref 0 [] 0)],[(0,.optr [.sl 0 [],.sl 0 []])],1⟩ rfl rfl ?_
  refine az ?_
  exact ⟨_,_,rfl,rfl,by rw [ht];rfl⟩
end Go.Proofs.Ytlbdmpjnmfmnfaa
end
section
set_option linter.unusedSimpArgs false
set_option linter.unusedVariables false
namespace Go.Proofs.Ytlbdmpjnmfmnfaa
open Go.RowKit Go.HL Go.FS
def xk (x:Int):Bool:=!decide (0<=x/\x<64)
theorem O1 (x:Int):HT Try.prog 78 [.int .i64 x] (fun r=>r=.bool (xk x)):=by
 refine HT.of rfl abE (Nat.le_of_ble_eq_true rfl) ?_
 unfold c78
 simp only [aX,Nat.reduceAdd]
 repeat (first|refine ah ?_|refine af ?_|refine au ?_|refine ae ?_)
 refine dF bW dm (qQ x) ?_
 rintro _ rfl
 refine ⟨cO,_,_,_,_,_,gY,(by decide),bT,?_⟩
 repeat (first|refine ah ?_|refine af ?_|refine KR (by rfl) (by (try simp only [go_sem,reduceIte]);try rfl) ?_)
 refine az ?_
 rfl
theorem OD (l:List Int) (hl:l.length<=9223372036854775807):HT Try.prog 105 [.sl l.length (HL.ints l),.fn 78 []] (fun r=>∃z:Int,r=.int .i64 z/\(0<=z <-> l.any xk=true)):=by
 refine HT.of rfl Zb (Nat.le_of_ble_eq_true rfl) ?_
 unfold c105
 simp only [aX,Nat.reduceAdd]
 repeat (first|refine ah ?_|refine af ?_|refine aB ?_|refine au ?_|refine ae ?_|refine aA ?_)
 refine bQ [0,1,7,8] (fun k:Nat=>k<=l.length/\(l.take k).any xk=false)
  (fun k=>⟨[(0,.sl l.length (HL.ints l)),(1,.fn 78 []),(7,.int .i64 l.length),(8,.int .i64 k)],[],0⟩)
  (fun k=>l.length - k) 0 ⟨by omega,by simp⟩ rfl ?_
 rintro k ⟨hk,hno⟩
 by_cases hkl:k<l.length
 ·have htk:=dE hkl
  repeat (first|refine ah ?_|refine aJ ?_|refine dD ?_|refine af ?_|refine ay ?_|refine ak ?_|refine au ?_|refine ae ?_|refine aA ?_|refine aH ?_)
  refine Gi (by rfl) bW dm (O1 (l.getD k 0)) ?_
  rintro _ rfl
  cases hp:xk (l.getD k 0)
  ·refine ⟨cO,_,_,_,_,_,gY,(by decide),bT,?_⟩
   repeat (first|refine ah ?_|refine af ?_|refine bf ?_|refine ax ?_|refine ae ?_|refine dH ?_|refine aH ?_)
   exact bZ [0,1,7,8] (k+1) ⟨hkl,by rw [htk,List.any_append,hno];simp only [List.any_cons,List.any_nil,Bool.or_false,Bool.false_or];exact hp⟩ (by omega) rfl
  ·refine ⟨cO,_,_,_,_,_,gY,(by decide),bT,?_⟩
   repeat (first|refine ah ?_|refine af ?_|refine ak ?_|refine au ?_|refine ae ?_)
   refine az ?_
   exact ⟨_,rfl,fun _=>List.any_eq_true.2 ⟨l.getD k 0,by rw [List.getD_eq_getElem?_getD,List.getElem?_eq_getElem hkl];exact List.getElem_mem _,hp⟩,fun _=>by omega⟩
 ·obtain rfl:k=l.length:=by omega
  rw [List.take_length] at hno
  repeat (first|refine ah ?_|refine af ?_|refine ay ?_|refine bD (by rfl) ?_|refine ax ?_|refine au ?_|refine ae ?_)
  refine az ?_
  exact ⟨_,rfl,fun h=>absurd h (by decide),fun h=>by rw [hno] at h;cases h⟩
theorem FD (l:List Int) (hl:l.length<=9223372036854775807):HT Try.prog 79 [.sl l.length (HL.ints l),.fn 78 []] (fun r=>r=.bool (l.any xk)):=by
 refine HT.of rfl abZ (Nat.le_of_ble_eq_true rfl) ?_
 unfold c79
 simp only [aX,Nat.reduceAdd]
 repeat (first|refine ah ?_|refine af ?_|refine au ?_|refine ae ?_)
 refine dF bW dm (OD l hl) ?_
 rintro _ ⟨z,rfl,hz⟩
 refine ⟨cO,_,_,_,_,_,gY,(by decide),bT,?_⟩
 by_cases h0:0<=z
 ·repeat (first|refine ah ?_|refine af ?_|refine dh ?_)
  refine az ?_
  simp [dJ,hz.1 h0,h0]
 ·have:l.any xk=false:=by
   cases h:l.any xk
   ·rfl
   ·exact absurd (hz.2 h) h0
  rw [this]
  repeat (first|refine ah ?_|refine af ?_|refine dh ?_)
  refine az ?_
  simp [dJ,h0]
theorem OX (l:List Int) (i:Nat) (hl:l.length<=9223372036854775807):HT Try.prog 80 [.sl l.length (HL.ints l),.int .i64 i] (fun r=>r=.int .i64 (l.getD i (-1))):=by
 refine HT.of rfl ace (Nat.le_of_ble_eq_true rfl) ?_
 unfold c80
 simp only [aX,Nat.reduceAdd]
 by_cases h:i<l.length
 ·repeat (first|refine ah ?_|refine aJ ?_|refine dD ?_|refine af ?_|refine ay ?_|refine aB ?_|refine ak ?_|refine au ?_|refine ae ?_)
  refine az ?_
  simp [dJ,h]
 ·repeat (first|refine ah ?_|refine af ?_|refine ay ?_|refine aB ?_|refine ax ?_|refine au ?_|refine ae ?_|refine aH ?_)
  refine az ?_
  simp [dJ,h]
end Go.Proofs.Ytlbdmpjnmfmnfaa
end
