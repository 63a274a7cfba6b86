import Derived.Test.YtlbdmpjnmfmnfaaFs2
import Derived.Test.YtlbdmpjnmfmnfaaFsN
import Derived.Test.YtlbdmpjnmfmnfaaFsB
section
set_option linter.unusedSimpArgs false
set_option linter.unusedVariables false
namespace Go.Proofs.Ytlbdmpjnmfmnfaa
open Go.RowKit Go.HL Go.FS
theorem Ig (l:List Bool) (h:0<l.length) (h2:l.length<=100000000):HT Try.prog 67 [.sl l.length (HL.bools l)] (fun r=>r=.osl 1 l.length (HL.bools l)):=by
 refine HT.of rfl ZK (Nat.le_of_ble_eq_true rfl) ?_
 unfold c67
 simp only [aW,Nat.reduceAdd]
 repeat (first|refine ah ?_|refine af ?_|refine ax ?_|refine au ?_|refine ae ?_|refine aF ?_|refine bT ?_|refine bU ?_|refine gG ?_|refine Jv (by rfl) (by omega) ?_)
 refine ay ?_
 rfl
def vF (a:A):A:=⟨a.f,a.o,a.i,a.t⟩
def o8 (fin:List Bool) (al:List A):List Bool×List A:=if okF fin al=true then (fin,al.map vF) else ([],[])
set_option maxHeartbeats 8000000 in
theorem uP (fin:List Bool) (al:List A) (hf:fin.length<=9223372036854775807) (ha:al.length<=9223372036854775807):HT Try.prog 23 [.agg (fA fin al)] (fun r=>r=.agg (fA (o8 fin al).1 (o8 fin al).2)):=by
 refine HT.ofC rfl aal [2] rfl (Nat.le_of_ble_eq_true rfl) ?_
 unfold c23
 have hvd:=kD fin al hf ha
 simp only [aW,Nat.reduceAdd]
 simp only [fA,iw] at hvd ⊢
 repeat (first|refine af ?_|refine au ?_|refine ae ?_|refine fZ ?_|refine dD ?_|refine bG dS ?_)
 refine dG bK dh (hvd) ?_
 rintro _ rfl
 by_cases hv:okF fin al=true
 ·have ht:o8 fin al=(fin,al.map vF):=if_pos hv
  rw [hv]
  refine ⟨bP,_,_,_,_,_,gU,(by decide),bJ,?_⟩
  obtain ⟨h1,h2,h3⟩:=jf hv
  repeat (first|refine aU ?_|refine af ?_|refine ax ?_|refine au ?_|refine ae ?_|refine aF ?_|refine iJ (by rfl) ?_|refine aB ?_)
  refine dG bK dh (Ig fin (by omega) (by omega)) ?_
  rintro _ rfl
  refine ⟨bP,_,_,_,_,_,gU,(by decide),bJ,?_⟩
  repeat (first|refine ah ?_|refine aU ?_|refine af ?_|refine aI ?_|refine au ?_|refine ae ?_|refine aA ?_|refine aB ?_|refine cu ?_|refine bG dS ?_|refine bZ ?_)
  refine fF 144 [1,4] [2,3,15,16,17] (⟨[(2,.pref 0 [] 0),(3,.pref 1 [] 0),(15,.sl al.length (recs aC al)),(16,.int .i64 al.length),(17,.int .i64 0)],[(0,.optr [.nils,.nils]),(1,.optr [.osl 1 fin.length (HL.bools fin),.osl 4 0 []])],2⟩:St) rfl rfl ?_
  refine bW [2,3,15,16,17] (fun k:Nat=>k<=al.length)
   (fun k=>⟨[(2,.pref 0 [] 0),(3,.pref 1 [] 0),(15,.sl al.length (recs aC al)),(16,.int .i64 al.length),(17,.int .i64 k)],[(0,.optr [.nils,.nils]),(1,.optr [.osl 1 fin.length (HL.bools fin),.osl 4 k (recs aC ((al.take k).map vF))])],2⟩)
   (fun k=>al.length - k) 0 (by omega) rfl ?_
  intro k hk
  by_cases hkl:k<al.length
  ·have hst:(al.take (k+1)).map vF=(al.take k).map vF++[vF (al.getD k default)]:=by rw [dA hkl,List.map_append];rfl
   have hml:((al.take k).map vF).length=k:=by simp;omega
   generalize (al.take k).map vF=ml at hst hml
   repeat (first|refine ah ?_|refine aO ?_|refine aU ?_|refine af ?_|refine az ?_|refine bY ?_|refine ak ?_|refine au ?_|refine ae ?_|refine aA ?_|refine dL ?_|refine aF ?_|refine aB ?_|refine aZ ?_|refine cZ ?_|refine cu ?_|refine bU ?_|refine bG dS ?_|refine gG ?_|refine bZ ?_)
   exact dm [2,3,15,16,17] (k+1) hkl (by omega) (by simp only [hst,vF];rfl)
  ·obtain rfl:k=al.length:=by omega
   rw [List.take_length]
   refine bg 1 [2,3,16,17] ⟨[(2,.pref 0 [] 0),(3,.ptr (stripL [.osl 1 fin.length (HL.bools fin),.osl 4 al.length (recs aC (al.map vF))]) 0),(16,.int .i64 al.length),(17,.int .i64 al.length)],[(0,.optr [.nils,.nils])],1⟩ rfl ?_
   rw [jm]
   repeat (first|refine af ?_|refine az ?_|refine bQ (by rfl) ?_|refine ax ?_|refine au ?_|refine ae ?_|refine aZ ?_|refine cu ?_)
   refine ay ?_
   exact ⟨_,_,rfl,rfl,by rw [ht];simp only [fA,iw,List.length_map];rfl⟩
 ·have ht:o8 fin al=([],[]):=if_neg hv
  rw [show okF fin al=false by simpa using hv]
  refine ⟨bP,_,_,_,_,_,gU,(by decide),bJ,?_⟩
  repeat (first|refine af ?_|refine ak ?_|refine au ?_|refine ae ?_|refine je (by rfl) ?_|refine cu ?_|refine bZ ?_)
  refine fF 16 [1,4] [2] (⟨[(2,.pref 0 [] 0)],[(0,.optr [.osl 1 0 [],.osl 4 0 []])],1⟩:St) rfl rfl ?_
  refine jW 0 [2] ⟨[(2,.pref 0 [] 0)],[(0,.optr [.sl 0 [],.sl 0 []])],1⟩ rfl rfl ?_
  refine ay ?_
  exact ⟨_,_,rfl,rfl,by rw [ht];rfl⟩
end Go.Proofs.Ytlbdmpjnmfmnfaa
end
section
set_option linter.unusedSimpArgs false
set_option linter.unusedVariables false
namespace Go.Proofs.Ytlbdmpjnmfmnfaa
open Go.RowKit Go.HL Go.FS
def wB (x:Int):Bool:=!decide (0<=x/\x<64)
theorem NI (x:Int):HT Try.prog 78 [.int .i64 x] (fun r=>r=.bool (wB x)):=by
 refine HT.of rfl ZW (Nat.le_of_ble_eq_true rfl) ?_
 unfold c78
 simp only [aW,Nat.reduceAdd]
 repeat (first|refine ah ?_|refine af ?_|refine au ?_|refine ae ?_)
 refine dG bK dh (qO x) ?_
 rintro _ rfl
 refine ⟨bP,_,_,_,_,_,gU,(by decide),bJ,?_⟩
 repeat (first|refine ah ?_|refine af ?_|refine FH (by rfl) (by (try simp only [go_sem,reduceIte]);try rfl) ?_)
 refine ay ?_
 rfl
theorem NK (l:List Int) (hl:l.length<=9223372036854775807):HT Try.prog 105 [.sl l.length (HL.ints l),.fn 78 []] (fun r=>∃z:Int,r=.int .i64 z/\(0<=z <-> l.any wB=true)):=by
 refine HT.of rfl Vy (Nat.le_of_ble_eq_true rfl) ?_
 unfold c105
 simp only [aW,Nat.reduceAdd]
 repeat (first|refine ah ?_|refine af ?_|refine aI ?_|refine au ?_|refine ae ?_|refine aA ?_)
 refine bW [0,1,7,8] (fun k:Nat=>k<=l.length/\(l.take k).any wB=false)
  (fun k=>⟨[(0,.sl l.length (HL.ints l)),(1,.fn 78 []),(7,.int .i64 l.length),(8,.int .i64 k)],[],0⟩)
  (fun k=>l.length - k) 0 ⟨by omega,by simp⟩ rfl ?_
 rintro k ⟨hk,hno⟩
 by_cases hkl:k<l.length
 ·have htk:=dA hkl
  repeat (first|refine ah ?_|refine aO ?_|refine di ?_|refine af ?_|refine az ?_|refine ak ?_|refine au ?_|refine ae ?_|refine aA ?_|refine aF ?_)
  refine zx (by rfl) bK dh (NI (l.getD k 0)) ?_
  rintro _ rfl
  cases hp:wB (l.getD k 0)
  ·refine ⟨bP,_,_,_,_,_,gU,(by decide),bJ,?_⟩
   repeat (first|refine ah ?_|refine af ?_|refine bY ?_|refine ax ?_|refine ae ?_|refine dL ?_|refine aF ?_)
   exact dm [0,1,7,8] (k+1) ⟨hkl,by rw [htk,List.any_append,hno];simp only [List.any_cons,List.any_nil,Bool.or_false,Bool.false_or];exact hp⟩ (by omega) rfl
  ·refine ⟨bP,_,_,_,_,_,gU,(by decide),bJ,?_⟩
   repeat (first|refine ah ?_|refine af ?_|refine ak ?_|refine au ?_|refine ae ?_)
   refine ay ?_
   exact ⟨_,rfl,fun _=>List.any_eq_true.2 ⟨l.getD k 0,by rw [List.getD_eq_getElem?_getD,List.getElem?_eq_getElem hkl];exact List.getElem_mem _,hp⟩,fun _=>by omega⟩
 ·obtain rfl:k=l.length:=by omega
  rw [List.take_length] at hno
  repeat (first|refine ah ?_|refine af ?_|refine az ?_|refine bQ (by rfl) ?_|refine ax ?_|refine au ?_|refine ae ?_)
  refine ay ?_
  exact ⟨_,rfl,fun h=>absurd h (by decide),fun h=>by rw [hno] at h;cases h⟩
theorem FC (l:List Int) (hl:l.length<=9223372036854775807):HT Try.prog 79 [.sl l.length (HL.ints l),.fn 78 []] (fun r=>r=.bool (l.any wB)):=by
 refine HT.of rfl aah (Nat.le_of_ble_eq_true rfl) ?_
 unfold c79
 simp only [aW,Nat.reduceAdd]
 repeat (first|refine ah ?_|refine af ?_|refine au ?_|refine ae ?_)
 refine dG bK dh (NK l hl) ?_
 rintro _ ⟨z,rfl,hz⟩
 refine ⟨bP,_,_,_,_,_,gU,(by decide),bJ,?_⟩
 by_cases h0:0<=z
 ·repeat (first|refine ah ?_|refine af ?_|refine dP ?_)
  refine ay ?_
  simp [dw,hz.1 h0,h0]
 ·have:l.any wB=false:=by
   cases h:l.any wB
   ·rfl
   ·exact absurd (hz.2 h) h0
  rw [this]
  repeat (first|refine ah ?_|refine af ?_|refine dP ?_)
  refine ay ?_
  simp [dw,h0]
theorem Ou (l:List Int) (i:Nat) (hl:l.length<=9223372036854775807):HT Try.prog 80 [.sl l.length (HL.ints l),.int .i64 i] (fun r=>r=.int .i64 (l.getD i (-1))):=by
 refine HT.of rfl aae (Nat.le_of_ble_eq_true rfl) ?_
 unfold c80
 simp only [aW,Nat.reduceAdd]
 by_cases h:i<l.length
 ·repeat (first|refine ah ?_|refine aO ?_|refine di ?_|refine af ?_|refine az ?_|refine aI ?_|refine ak ?_|refine au ?_|refine ae ?_)
  refine ay ?_
  simp [dw,h]
 ·repeat (first|refine ah ?_|refine af ?_|refine az ?_|refine aI ?_|refine ax ?_|refine au ?_|refine ae ?_|refine aF ?_)
  refine ay ?_
  simp [dw,h]
end Go.Proofs.Ytlbdmpjnmfmnfaa
end
