import Derived.Test.YtlbdmpjnmfmnfaaFs2
import Derived.Test.YtlbdmpjnmfmnfaaHlFi
import Derived.Test.YtlbdmpjnmfmnfaaFsB
section
set_option linter.unusedSimpArgs false
set_option linter.unusedVariables false
namespace Go.Proofs.Ytlbdmpjnmfmnfaa
open Go.RowKit Go.HL Go.FS
theorem H8 (l:List Bool) (h:0<l.length) (h2:l.length<=100000000):HT Try.prog 67 [.sl l.length (HL.bools l)] (fun r=>r=.osl 1 l.length (HL.bools l)):=by
 refine HT.of rfl YD (Nat.le_of_ble_eq_true rfl) ?_
 unfold Zr
 simp only [aW,Nat.reduceAdd]
 repeat (first|refine ag ?_|refine af ?_|refine au ?_|refine ah ?_|refine ae ?_|refine aA ?_|refine bG ?_|refine bQ ?_|refine gZ ?_|refine Le (by rfl) (by omega) ?_)
 refine ax ?_
 rfl
def xN (a:A):A:=⟨a.f,a.o,a.i,a.t⟩
def LM (fin:List Bool) (al:List A):List Bool×List A:=if okF fin al=true then (fin,al.map xN) else ([],[])
set_option maxHeartbeats 8000000 in
theorem H7 (fin:List Bool) (al:List A) (hf:fin.length<=9223372036854775807) (ha:al.length<=9223372036854775807):HT Try.prog 23 [.agg (gX fin al)] (fun r=>r=.agg (gX (LM fin al).1 (LM fin al).2)):=by
 refine HT.ofC rfl YI [2] rfl (Nat.le_of_ble_eq_true rfl) ?_
 unfold c23
 have hvd:=sF fin al hf ha
 simp only [aW,Nat.reduceAdd]
 simp only [gX,ji] at hvd ⊢
 repeat (first|refine af ?_|refine ah ?_|refine ae ?_|refine gK ?_|refine fF ?_|refine bY dZ ?_)
 refine bZ bJ cZ (hvd) ?_
 rintro _ rfl
 by_cases hv:okF fin al=true
 ·have ht:LM fin al=(fin,al.map xN):=if_pos hv
  rw [hv]
  refine ⟨bP,_,_,_,_,_,gV,(by decide),bH,?_⟩
  obtain ⟨h1,h2,h3⟩:=jH hv
  repeat (first|refine aY ?_|refine af ?_|refine au ?_|refine ah ?_|refine ae ?_|refine aA ?_|refine ja (by rfl) ?_|refine aI ?_)
  refine bZ bJ cZ (H8 fin (by omega) (by omega)) ?_
  rintro _ rfl
  refine ⟨bP,_,_,_,_,_,gV,(by decide),bH,?_⟩
  repeat (first|refine ag ?_|refine aY ?_|refine af ?_|refine aP ?_|refine ah ?_|refine ae ?_|refine aG ?_|refine aI ?_|refine dV ?_|refine bY dZ ?_|refine di ?_)
  refine gY 144 [1,4] [2,3,15,16,17] (⟨[(2,.pref 0 [] 0),(3,.pref 1 [] 0),(15,.sl al.length (recs aC al)),(16,.int .i64 al.length),(17,.int .i64 0)],[(0,.optr [.nils,.nils]),(1,.optr [.osl 1 fin.length (HL.bools fin),.osl 4 0 []])],2⟩:St) rfl rfl ?_
  refine cu [2,3,15,16,17] (fun k:Nat=>k<=al.length)
   (fun k=>⟨[(2,.pref 0 [] 0),(3,.pref 1 [] 0),(15,.sl al.length (recs aC al)),(16,.int .i64 al.length),(17,.int .i64 k)],[(0,.optr [.nils,.nils]),(1,.optr [.osl 1 fin.length (HL.bools fin),.osl 4 k (recs aC ((al.take k).map xN))])],2⟩)
   (fun k=>al.length - k) 0 (by omega) rfl ?_
  intro k hk
  by_cases hkl:k<al.length
  ·have hst:(al.take (k+1)).map xN=(al.take k).map xN++[xN (al.getD k default)]:=by rw [dh hkl,List.map_append];rfl
   have hml:((al.take k).map xN).length=k:=by simp;omega
   generalize (al.take k).map xN=ml at hst hml
   repeat (first|refine ag ?_|refine aT ?_|refine aY ?_|refine af ?_|refine az ?_|refine bz ?_|refine ak ?_|refine ah ?_|refine ae ?_|refine aG ?_|refine fJ ?_|refine aA ?_|refine aI ?_|refine bI ?_|refine dJ ?_|refine dV ?_|refine bQ ?_|refine bY dZ ?_|refine gZ ?_|refine di ?_)
   exact dC [2,3,15,16,17] (k+1) hkl (by omega) (by simp only [hst,xN];rfl)
  ·obtain rfl:k=al.length:=by omega
   rw [List.take_length]
   refine bM 1 [2,3,16,17] ⟨[(2,.pref 0 [] 0),(3,.ptr (stripL [.osl 1 fin.length (HL.bools fin),.osl 4 al.length (recs aC (al.map xN))]) 0),(16,.int .i64 al.length),(17,.int .i64 al.length)],[(0,.optr [.nils,.nils])],1⟩ rfl ?_
   rw [yT]
   repeat (first|refine af ?_|refine az ?_|refine bF (by rfl) ?_|refine au ?_|refine ah ?_|refine ae ?_|refine bI ?_|refine dV ?_)
   refine ax ?_
   exact ⟨_,_,rfl,rfl,by rw [ht];simp only [gX,ji,List.length_map];rfl⟩
 ·have ht:LM fin al=([],[]):=if_neg hv
  rw [show okF fin al=false by simpa using hv]
  refine ⟨bP,_,_,_,_,_,gV,(by decide),bH,?_⟩
  repeat (first|refine af ?_|refine ak ?_|refine ah ?_|refine ae ?_|refine iK (by rfl) ?_|refine dV ?_|refine di ?_)
  refine gY 16 [1,4] [2] (⟨[(2,.pref 0 [] 0)],[(0,.optr [.osl 1 0 [],.osl 4 0 []])],1⟩:St) rfl rfl ?_
  refine uG 0 [2] ⟨[(2,.pref 0 [] 0)],[(0,.optr [.sl 0 [],.sl 0 []])],1⟩ rfl rfl ?_
  refine ax ?_
  exact ⟨_,_,rfl,rfl,by rw [ht];rfl⟩
end Go.Proofs.Ytlbdmpjnmfmnfaa
end
section
set_option linter.unusedSimpArgs false
set_option linter.unusedVariables false
namespace Go.Proofs.Ytlbdmpjnmfmnfaa
open Go.RowKit Go.HL Go.FS
def vG (x:Int):Bool:=!decide (0<=x/\x<64)
theorem N9 (x:Int):HT Try.prog 78 [.int .i64 x] (fun r=>r=.bool (vG x)):=by
 refine HT.of rfl Y3 (Nat.le_of_ble_eq_true rfl) ?_
 unfold ZC
 simp only [aW,Nat.reduceAdd]
 repeat (first|refine ag ?_|refine af ?_|refine ah ?_|refine ae ?_)
 refine bZ bJ cZ (qp x) ?_
 rintro _ rfl
 refine ⟨bP,_,_,_,_,_,gV,(by decide),bH,?_⟩
 repeat (first|refine ag ?_|refine af ?_|refine Jz (by rfl) (by (try simp only [go_sem,reduceIte]);try rfl) ?_)
 refine ax ?_
 rfl
theorem Oz (l:List Int) (hl:l.length<=9223372036854775807):HT Try.prog 105 [.sl l.length (HL.ints l),.fn 78 []] (fun r=>∃z:Int,r=.int .i64 z/\(0<=z <-> l.any vG=true)):=by
 refine HT.of rfl Xg (Nat.le_of_ble_eq_true rfl) ?_
 unfold c105
 simp only [aW,Nat.reduceAdd]
 repeat (first|refine ag ?_|refine af ?_|refine aP ?_|refine ah ?_|refine ae ?_|refine aG ?_)
 refine cu [0,1,7,8] (fun k:Nat=>k<=l.length/\(l.take k).any vG=false)
  (fun k=>⟨[(0,.sl l.length (HL.ints l)),(1,.fn 78 []),(7,.int .i64 l.length),(8,.int .i64 k)],[],0⟩)
  (fun k=>l.length - k) 0 ⟨by omega,by simp⟩ rfl ?_
 rintro k ⟨hk,hno⟩
 by_cases hkl:k<l.length
 ·have htk:=dh hkl
  repeat (first|refine ag ?_|refine aT ?_|refine bU ?_|refine af ?_|refine az ?_|refine ak ?_|refine ah ?_|refine ae ?_|refine aG ?_|refine aA ?_)
  refine F8 (by rfl) bJ cZ (N9 (l.getD k 0)) ?_
  rintro _ rfl
  cases hp:vG (l.getD k 0)
  ·refine ⟨bP,_,_,_,_,_,gV,(by decide),bH,?_⟩
   repeat (first|refine ag ?_|refine af ?_|refine bz ?_|refine au ?_|refine ae ?_|refine fJ ?_|refine aA ?_)
   exact dC [0,1,7,8] (k+1) ⟨hkl,by rw [htk,List.any_append,hno];simp only [List.any_cons,List.any_nil,Bool.or_false,Bool.false_or];exact hp⟩ (by omega) rfl
  ·refine ⟨bP,_,_,_,_,_,gV,(by decide),bH,?_⟩
   repeat (first|refine ag ?_|refine af ?_|refine ak ?_|refine ah ?_|refine ae ?_)
   refine ax ?_
   exact ⟨_,rfl,fun _=>List.any_eq_true.2 ⟨l.getD k 0,by rw [List.getD_eq_getElem?_getD,List.getElem?_eq_getElem hkl];exact List.getElem_mem _,hp⟩,fun _=>by omega⟩
 ·obtain rfl:k=l.length:=by omega
  rw [List.take_length] at hno
  repeat (first|refine ag ?_|refine af ?_|refine az ?_|refine bF (by rfl) ?_|refine au ?_|refine ah ?_|refine ae ?_)
  refine ax ?_
  exact ⟨_,rfl,fun h=>absurd h (by decide),fun h=>by rw [hno] at h;cases h⟩
theorem ES (l:List Int) (hl:l.length<=9223372036854775807):HT Try.prog 79 [.sl l.length (HL.ints l),.fn 78 []] (fun r=>r=.bool (l.any vG)):=by
 refine HT.of rfl YM (Nat.le_of_ble_eq_true rfl) ?_
 unfold Zm
 simp only [aW,Nat.reduceAdd]
 repeat (first|refine ag ?_|refine af ?_|refine ah ?_|refine ae ?_)
 refine bZ bJ cZ (Oz l hl) ?_
 rintro _ ⟨z,rfl,hz⟩
 refine ⟨bP,_,_,_,_,_,gV,(by decide),bH,?_⟩
 by_cases h0:0<=z
 ·repeat (first|refine ag ?_|refine af ?_|refine mQ (by rfl) (by rfl) kF ?_)
  refine ax ?_
  simp [dA,hz.1 h0,h0]
 ·have:l.any vG=false:=by
   cases h:l.any vG
   ·rfl
   ·exact absurd (hz.2 h) h0
  rw [this]
  repeat (first|refine ag ?_|refine af ?_|refine mQ (by rfl) (by rfl) kF ?_)
  refine ax ?_
  simp [dA,h0]
theorem MP (l:List Int) (i:Nat) (hl:l.length<=9223372036854775807):HT Try.prog 80 [.sl l.length (HL.ints l),.int .i64 i] (fun r=>r=.int .i64 (l.getD i (-1))):=by
 refine HT.of rfl Yo (Nat.le_of_ble_eq_true rfl) ?_
 unfold c80
 simp only [aW,Nat.reduceAdd]
 by_cases h:i<l.length
 ·repeat (first|refine ag ?_|refine aT ?_|refine bU ?_|refine af ?_|refine az ?_|refine aP ?_|refine ak ?_|refine ah ?_|refine ae ?_)
  refine ax ?_
  simp [dA,h]
 ·repeat (first|refine ag ?_|refine af ?_|refine az ?_|refine aP ?_|refine au ?_|refine ah ?_|refine ae ?_|refine aA ?_)
  refine ax ?_
  simp [dA,h]
end Go.Proofs.Ytlbdmpjnmfmnfaa
end
