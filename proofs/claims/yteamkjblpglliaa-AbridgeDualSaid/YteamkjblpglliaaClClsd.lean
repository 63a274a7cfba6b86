import Derived.Test.YteamkjblpglliaaAbA
import Derived.Test.YteamkjblpglliaaFlChk
import Derived.Test.YteamkjblpglliaaClFits
section
set_option linter.unusedSimpArgs false
set_option linter.unusedVariables false
namespace Go.Proofs.Yteamkjblpglliaa
open Go.RowKit Go.SL Go.HL
def BoundR (w:List Int) (nd:List (List Nat)) (fl:List Int) (x y:Int):Prop :=
 (fl.length≠(iM w nd).length/\x=0/\y=1)\/(fl.length=(iM w nd).length/\∃v e,CheckR (nd.length+2) nd.length ((nd.length:Int)+1) (iM w nd) fl v e/\(e≠0/\x=0/\y=e\/e=0/\x=jr w nd.length - v/\y=0))
theorem CheckR.bd {n:Nat} {s t:Int} {es:List Edge} {fl:List Int} {v e:Int} (h:CheckR n s t es fl v e) (hc:∀e∈es,e.c<=1099511627776) (hl:es.length<=65536) : -72057594037927936<=v/\v<=72057594037927936:=by
 rcases h with ⟨_,rfl,_⟩|⟨_,_,rfl,_⟩|⟨hok,_,rfl,_⟩
 ·omega
 ·omega
 ·have hb:=AU n es fl es.length hc (Nat.le_refl _) hok
  by_cases hs:s.toNat<(jh n es fl es.length).length
  ·have:=hb ((jh n es fl es.length).getD s.toNat 0) (by rw [List.getD_eq_getElem?_getD,List.getElem?_eq_getElem hs,Option.getD_some];exact List.getElem_mem hs)
   omega
  ·rw [List.getD_eq_getElem?_getD,List.getElem?_eq_none (by omega)];simp
set_option maxHeartbeats 8000000 in
theorem zt (w:List Int) (nd:List (List Nat)) (bad:List Bool) (fl:List Int) (g:Gr nd bad) (hw:WOK w) (hl:w.length=nd.length):HT Try.prog 14 [I w,Gs (nd.map nl),I fl] (fun r=>∃x y,r=.tup [.int .i64 x,.int .i64 y]/\BoundR w nd fl x y):=by
 have hsz:=g.size
 have hnl:(nd.map nl).length=nd.length:=by simp
 have hNl:=jX g w
 have hN2:nd.length*nd.length<=256*256:=Nat.mul_le_mul hsz hsz
 have hv:=nU g hw
 have hnet:=xm w nd bad g hw hl
 simp only [Gs,I] at hnet
 rw [hnl,hl] at hnet
 refine HT.of rfl aeb (Nat.le_of_ble_eq_true rfl) ?_
 unfold c14
 simp only [Gs,I,aP,Nat.reduceAdd]
 rw [hnl,hl]
 repeat (first|refine ah ?_|refine ag ?_|refine ak ?_|refine ae ?_)
 refine bf aJ dI (hnet) ?_
 rintro _ rfl
 refine ⟨dE,_,_,_,_,_,dw,(by decide),aQ,?_⟩
 repeat (first|refine ah ?_|refine ag ?_|refine aY ?_|refine bz ?_|refine bU ?_|refine aF ?_|refine au ?_|refine ak ?_|refine ae ?_|refine aA ?_)
 by_cases hfl:fl.length=(iM w nd).length
 ·have hck:=Dw (nd.length+2) (iM w nd) nd.length (nd.length+1) fl hv hfl
  simp only [Es,I,Int.natCast_add,Int.cast_ofNat_Int] at hck
  refine bf aJ dI (hck) ?_
  rintro _ ⟨v,e,rfl,hR⟩
  have hbd:=hR.bd (fun e he=>(hv.all e he).2.2.2.2.2.2) (by omega)
  have hE:e=0\/e=5\/e=24:=by
   rcases hR with ⟨_,_,h⟩|⟨_,_,_,h⟩|⟨_,_,_,h⟩<;>omega
  refine ⟨dE,_,_,_,_,_,dw,(by decide),aQ,?_⟩
  by_cases he:e=0
  ·subst he
   repeat (first|refine ah ?_|refine ag ?_|refine aW ?_|refine bU ?_|refine aF ?_|refine au ?_|refine ak ?_|refine ae ?_|refine aB ?_|refine aA ?_|refine Df (by rfl) nV ?_)
   refine bD [13,41,42,43] (fun i:Nat=>i<=nd.length) (fun i=>⟨[(13,.int .i64 (jr w i - v)),(41,.sl nd.length (HL.ints w)),(42,.int .i64 nd.length),(43,.int .i64 i)],[],0⟩) (fun i=>nd.length - i) 0 (by omega) (by simp only [jr];rfl) ?_
   rintro i hi
   have hp:=uG hw i
   by_cases hin:i<nd.length
   ·have hwi:=hw i
    obtain ⟨x,hx⟩:∃x,w.getD i 0=x:=⟨_,rfl⟩
    have hnx:jr w (i+1)=jr w i+max 0 x:=by rw [<- hx];rfl
    rw [hx] at hwi
    by_cases h0:0<x
    ·have hnx2:jr w i - v+x=jr w (i+1) - v:=by omega
     repeat (first|refine ah ?_|refine aN ?_|refine bK (by rfl) aT (by (try simp (disch:=omega) only [go_sem,hx,hnx2]);try rfl) ?_|refine ag ?_|refine az ?_|refine di (by rfl) (by rfl) (by (try simp (disch:=omega) only [go_sem,Int.reduceAdd,Int.reduceSub,Int.reduceMul,hx,hnx2]);try rfl) ?_|refine ax ?_|refine ak ?_|refine ae ?_|refine aB ?_|refine dh ?_|refine aA ?_|refine FC (by rfl) (by rfl) (by (try simp only [go_sem,reduceIte,hx,hnx2]);try rfl) ?_)
     exact bJ [13,41,42,43] (i+1) hin (by omega) (by rw [if_pos h0,hnx2];rfl)
    ·have hnx2:jr w i - v=jr w (i+1) - v:=by omega
     repeat (first|refine ah ?_|refine aN ?_|refine bK (by rfl) aT (by (try simp (disch:=omega) only [go_sem,hx]);try rfl) ?_|refine ag ?_|refine az ?_|refine di (by rfl) (by rfl) (by (try simp (disch:=omega) only [go_sem,Int.reduceAdd,Int.reduceSub,Int.reduceMul,hx]);try rfl) ?_|refine ax ?_|refine ak ?_|refine ae ?_|refine aB ?_|refine dh ?_|refine aA ?_|refine FC (by rfl) (by rfl) (by (try simp only [go_sem,reduceIte,hx]);try rfl) ?_)
     exact bJ [13,41,42,43] (i+1) hin (by omega) (by rw [if_neg h0,Int.add_zero,hnx2];rfl)
   ·obtain rfl:i=nd.length:=by omega
    repeat (first|refine ah ?_|refine ag ?_|refine az ?_|refine aO ?_|refine au ?_|refine ak ?_|refine ae ?_)
    refine ay ?_
    exact ⟨_,_,rfl,.inr ⟨hfl,v,0,hR,.inr ⟨rfl,rfl,rfl⟩⟩⟩
  ·repeat (first|refine ah ?_|refine ag ?_|refine aW ?_|refine bU ?_|refine ax ?_|refine ak ?_|refine ae ?_)
   refine ay ?_
   exact ⟨_,_,rfl,.inr ⟨hfl,v,e,hR,.inl ⟨he,rfl,rfl⟩⟩⟩
 ·have hck:=Bv ((nd.length:Int)+2) nd.length ((nd.length:Int)+1) (iM w nd) fl (by omega) (.inr hfl)
  simp only [Es,I] at hck
  refine bf aJ dI (hck) ?_
  rintro _ rfl
  refine ⟨dE,_,_,_,_,_,dw,(by decide),aQ,?_⟩
  repeat (first|refine ah ?_|refine ag ?_|refine aW ?_|refine bU ?_|refine ax ?_|refine ak ?_|refine ae ?_)
  refine ay ?_
  exact ⟨_,_,rfl,.inl ⟨hfl,rfl,rfl⟩⟩
theorem yP {w:List Int} {nd:List (List Nat)} {bad:List Bool} {fl:List Int} {x y:Int} (g:Gr nd bad) (hw:WOK w) (hf:vJ ((nd.length:Int)+2) nd.length ((nd.length:Int)+1) (iM w nd) fl) (h:BoundR w nd fl x y):y=0/\x=jr w nd.length - oJ (iM w nd) fl nd.length (iM w nd).length:=by
 rcases h with ⟨h,_⟩|⟨_,v,e,hR,h⟩
 ·exact absurd hf.len h
 ·obtain ⟨h1,h2⟩:=xO (n:=nd.length+2) (s:=nd.length) (t:=nd.length+1) (nU g hw) hf hR
  rcases h with ⟨h,_⟩|⟨_,h3,h4⟩
  ·exact absurd h2 h
  ·exact ⟨h4,by rw [h3,h1]⟩
set_option maxHeartbeats 2000000 in
theorem IY (w:List Int) (X:List Bool) (hw:WOK w) (n:Nat) (hn:n<=300) (hl:w.length=n) (hX:X.length=n):HT Try.prog 60 [I w,Bl X] (fun r=>r=.int .i64 (wS w X n)):=by
 refine HT.of rfl aeC (Nat.le_of_ble_eq_true rfl) ?_
 unfold c60
 simp only [I,Bl,aP,Nat.reduceAdd]
 rw [hl,hX]
 repeat (first|refine ah ?_|refine ag ?_|refine ak ?_|refine ae ?_|refine aB ?_)
 refine bD [0,1,5,6] (fun i:Nat=>i<=n) (fun i=>⟨[(0,.sl n (HL.ints w)),(1,.sl n (HL.bools X)),(5,.int .i64 (wS w X i)),(6,.int .i64 i)],[],0⟩) (fun i=>n - i) 0 (by omega) rfl ?_
 rintro i hi
 have hbd:=sW hw X i
 by_cases hin:i<n
 ·have hwi:=hw i
  have hnx:wS w X (i+1)=wS w X i+if X.getD i false then w.getD i 0 else 0:=rfl
  obtain ⟨x,hx⟩:∃x,w.getD i 0=x:=⟨_,rfl⟩
  rw [hx] at hwi hnx
  cases hb:X.getD i false with
  | true =>
   rw [hb,if_pos rfl] at hnx
   repeat (first|refine ah ?_|refine aG ?_|refine aN ?_|refine bK (by rfl) aT (by (try simp (disch:=omega) only [go_sem,hb,hx]);try rfl) ?_|refine ag ?_|refine az ?_|refine aK ?_|refine di (by rfl) (by rfl) (by (try simp (disch:=omega) only [go_sem,Int.reduceAdd,Int.reduceSub,Int.reduceMul,hb,hx]);try rfl) ?_|refine aF ?_|refine ax ?_|refine ak ?_|refine ae ?_|refine aB ?_|refine dh ?_|refine aA ?_)
   exact bJ [0,1,5,6] (i+1) hin (by omega) (by rw [hnx];rfl)
  | false =>
   rw [hb,if_neg (by decide),Int.add_zero] at hnx
   repeat (first|refine ah ?_|refine aG ?_|refine aN ?_|refine bK (by rfl) aT (by (try simp (disch:=omega) only [go_sem,hb,hx]);try rfl) ?_|refine ag ?_|refine az ?_|refine aK ?_|refine di (by rfl) (by rfl) (by (try simp (disch:=omega) only [go_sem,Int.reduceAdd,Int.reduceSub,Int.reduceMul,hb,hx]);try rfl) ?_|refine aF ?_|refine ax ?_|refine au ?_|refine ak ?_|refine ae ?_|refine aB ?_|refine dh ?_|refine aA ?_)
   exact bJ [0,1,5,6] (i+1) hin (by omega) (by rw [hnx];rfl)
 ·obtain rfl:i=n:=by omega
  repeat (first|refine ah ?_|refine bZ ?_|refine ag ?_|refine az ?_|refine aI ?_|refine aF ?_|refine aO ?_|refine au ?_|refine ak ?_|refine ae ?_)
  refine ay ?_
  rfl
end Go.Proofs.Yteamkjblpglliaa
end
section
set_option linter.unusedSimpArgs false
set_option linter.unusedVariables false
namespace Go.Proofs.Yteamkjblpglliaa
open Go.RowKit Go.SL Go.HL
def lacks (g:List (List Int)) (set:List Bool) (i:Nat):Bool:=set.getD i false&&(g.getD i []).any fun j=>!(set.getD j.toNat false)
def jf (g:List (List Int)) (set:List Bool):Bool:=kw g set&&!((List.range g.length).any (lacks g set))
theorem rV {g:List (List Int)} {set:List Bool} (h:kw g set=true):g.length=set.length/\∀i j,j∈g.getD i []->0<=j/\j<set.length:=by
 unfold kw at h
 simp only [Bool.and_eq_true,decide_eq_true_eq,Bool.not_eq_true',List.any_eq_false] at h
 refine ⟨h.1,fun i j hj=>?_⟩
 by_cases hi:i<g.length
 ·have:=h.2 _ (lX g [] hi)
  simp only [Bool.not_eq_true,List.any_eq_false] at this
  have:=this j hj
  simp [o6] at this
  omega
 ·rw [List.getD_eq_getElem?_getD,List.getElem?_eq_none (by omega)] at hj;cases hj
theorem qF (n:Nat) (p:Nat->Bool):(List.range (n+1)).any p=((List.range n).any p || p n):=by simp [List.range_succ]
theorem uo {n m:Nat} (p:Nat->Bool) (h:(List.range n).any p=true) (hm:n<=m):(List.range m).any p=true:=by
 rw [List.any_eq_true] at h ⊢
 obtain ⟨x,hx,h2⟩:=h
 exact ⟨x,List.mem_range.2 (by have:=List.mem_range.1 hx;omega),h2⟩
set_option maxHeartbeats 4000000 in
theorem MI (g:List (List Int)) (set:List Bool) (h1:g.length<=9223372036854775807) (h2:set.length<=9223372036854775807) (h3:∀i,(g.getD i []).length<=9223372036854775807) :
  HT Try.prog 71 [Gs g,Bl set] (fun r=>r=.bool (kw g set)):=by
 refine HT.of rfl afc (Nat.le_of_ble_eq_true rfl) ?_
 unfold c71
 simp only [Gs,Bl,aP,Nat.reduceAdd]
 unfold kw
 by_cases he:g.length=set.length
 ·rw [<- he] at h2 ⊢
  repeat (first|refine ah ?_|refine ag ?_|refine aW ?_|refine aF ?_|refine au ?_|refine ak ?_|refine ae ?_|refine aB ?_|refine aA ?_)
  refine bD [0,1,5] (fun i:Nat=>i<=g.length/\(g.take i).any (fun r=>r.any (o6 g.length))=false) (fun i=>⟨[(0,.sl g.length (aZ g)),(1,.sl g.length (HL.bools set)),(5,.int .i64 i)],[],0⟩) (fun i=>g.length - i) 0 ⟨by omega,rfl⟩ rfl ?_
  rintro i ⟨hi,hno⟩
  by_cases hil:i<g.length
  ·obtain ⟨row,hrow⟩:∃row,g.getD i []=row:=⟨_,rfl⟩
   have hrl:=h3 i
   rw [hrow] at hrl
   have hst:=any_take_succ g (fun r=>r.any (o6 g.length)) [] hil
   rw [hrow,hno,Bool.false_or] at hst
   repeat (first|refine ah ?_|refine ag ?_|refine az ?_|refine aF ?_|refine ax ?_|refine ak ?_|refine ae ?_|refine aB ?_|refine aA ?_)
   refine bD [0,1,5,6] (fun k:Nat=>k<=row.length/\(row.take k).any (o6 g.length)=false) (fun k=>⟨[(0,.sl g.length (aZ g)),(1,.sl g.length (HL.bools set)),(5,.int .i64 i),(6,.int .i64 k)],[],0⟩) (fun k=>row.length - k) 0 ⟨by omega,rfl⟩ rfl ?_
   rintro k ⟨hk,hkn⟩
   by_cases hkl:k<row.length
   ·obtain ⟨x,hx⟩:∃x,row.getD k 0=x:=⟨_,rfl⟩
    have hst2:=any_take_succ row (o6 g.length) 0 hkl
    rw [hx,hkn,Bool.false_or] at hst2
    have bad:o6 g.length x=true->(g.any fun r=>r.any (o6 g.length))=true:=fun h=>jO g (fun r=>r.any (o6 g.length)) (hst.trans (jO row (o6 g.length) (hst2.trans h)))
    by_cases h0:x<0
    ·repeat (first|refine ah ?_|refine bZ ?_|refine aN ?_|refine bK (by rfl) aT (by (try simp (disch:=omega) only [go_sem,hrow,hx]);try rfl) ?_|refine ag ?_|refine az ?_|refine aK ?_|refine aF ?_|refine ax ?_|refine ak ?_|refine ae ?_|refine aB ?_|refine aA ?_)
     refine ay ?_
     rw [bad (by simp [o6,h0])];simp [dP]
    ·by_cases h4:(g.length:Int)<=x
     ·repeat (first|refine ah ?_|refine aG ?_|refine aN ?_|refine bK (by rfl) aT (by (try simp (disch:=omega) only [go_sem,hrow,hx]);try rfl) ?_|refine ag ?_|refine az ?_|refine aI ?_|refine aF ?_|refine ax ?_|refine ak ?_|refine ae ?_|refine aB ?_|refine aA ?_|refine dG ?_)
      refine ay ?_
      rw [bad (by simp [o6,h4])];simp [dP]
     ·repeat (first|refine ah ?_|refine aG ?_|refine aN ?_|refine bK (by rfl) aT (by (try simp (disch:=omega) only [go_sem,hrow,hx]);try rfl) ?_|refine ag ?_|refine az ?_|refine aI ?_|refine di (by rfl) (by rfl) (by (try simp (disch:=omega) only [go_sem,Int.reduceAdd,Int.reduceSub,Int.reduceMul,hrow,hx]);try rfl) ?_|refine aF ?_|refine ax ?_|refine au ?_|refine ak ?_|refine ae ?_|refine aB ?_|refine dh ?_|refine aA ?_|refine dG ?_)
      exact bJ [0,1,5,6] (k+1) ⟨hkl,hst2.trans (by simp [o6,h0,h4])⟩ (by omega) rfl
   ·obtain rfl:k=row.length:=by omega
    rw [List.take_length] at hkn
    repeat (first|refine ah ?_|refine aN ?_|refine bK (by rfl) aT (by (try simp (disch:=omega) only [go_sem,hrow]);try rfl) ?_|refine ag ?_|refine az ?_|refine di (by rfl) (by rfl) (by (try simp (disch:=omega) only [go_sem,Int.reduceAdd,Int.reduceSub,Int.reduceMul,hrow]);try rfl) ?_|refine aF ?_|refine aO ?_|refine au ?_|refine ak ?_|refine ae ?_|refine dh ?_)
    exact bJ [0,1,5] (i+1) ⟨hil,hst.trans hkn⟩ (by omega) rfl
  ·obtain rfl:i=g.length:=by omega
   rw [List.take_length] at hno
   repeat (first|refine ah ?_|refine ag ?_|refine az ?_|refine aF ?_|refine aO ?_|refine au ?_|refine ak ?_|refine ae ?_)
   refine ay ?_
   rw [hno];simp [dP]
 ·repeat (first|refine ah ?_|refine ag ?_|refine aW ?_|refine aF ?_|refine ax ?_|refine ak ?_|refine ae ?_)
  refine ay ?_
  simp [dP,he]
theorem QS (x:Int) (set:List Bool) (h0:0<=x) (h1:x<set.length):HT Try.prog 53 [.int .i64 x,.ptr [.sl set.length (HL.bools set)] 0] (fun r=>r=.bool (!(set.getD x.toNat false))):=by
 refine HT.of rfl ad5 (Nat.le_of_ble_eq_true rfl) ?_
 unfold c53
 simp only [aP,Nat.reduceAdd]
 obtain ⟨b,hb⟩:∃b,set.getD x.toNat false=b:=⟨_,rfl⟩
 cases b with
 | true =>
  repeat (first|refine ah ?_|refine aN ?_|refine bK (by rfl) aT (by (try simp (disch:=omega) only [go_sem,hb]);try rfl) ?_|refine ag ?_|refine ak ?_|refine ae ?_|refine dR (by rfl) ?_)
  refine ay ?_
  rw [hb];rfl
 | false =>
  repeat (first|refine ah ?_|refine aN ?_|refine bK (by rfl) aT (by (try simp (disch:=omega) only [go_sem,hb]);try rfl) ?_|refine ag ?_|refine ak ?_|refine ae ?_|refine gZ (by rfl) ?_)
  refine ay ?_
  rw [hb];rfl
set_option maxHeartbeats 4000000 in
theorem Jk (g:List (List Int)) (set:List Bool) (h1:g.length<=9223372036854775807) (h2:set.length<=9223372036854775807) (h3:∀i,(g.getD i []).length<=9223372036854775807) :
  HT Try.prog 28 [Gs g,Bl set] (fun r=>r=.bool (jf g set)):=by
 refine HT.of rfl ae8 (Nat.le_of_ble_eq_true rfl) ?_
 unfold c28
 simp only [Gs,Bl,aP,Nat.reduceAdd]
 unfold jf
 repeat (first|refine ah ?_|refine aH ?_|refine ag ?_|refine ak ?_|refine ae ?_|refine dX ?_)
 refine bf aJ (by simp (disch:=omega) only [dL,Gs,HV.thaw,dC,aX,bg,if_true,if_false,reduceIte,Nat.reduceEqDiff,stripL,HV.strip,fF,dJ,eG,Nat.mul_one,List.cons_append,List.nil_append,List.append_nil,I,Bl,T3,Es,List.getD_cons_zero,List.getD_cons_succ,HL.ints_strip,HL.bools_strip,eu,dS];try rfl) (Ic g set h1 h2 h3) ?_
 rintro _ rfl
 refine ⟨dE,_,_,_,_,_,dw,(by decide),aQ,?_⟩
 cases hf:kw g set with
 | false =>
  repeat (first|refine ah ?_|refine ag ?_|refine ax ?_|refine ak ?_|refine ae ?_|refine gZ (by rfl) ?_)
  refine ay ?_
  simp [dP]
 | true =>
  obtain ⟨he,hin⟩:=rV hf
  repeat (first|refine ah ?_|refine aH ?_|refine ag ?_|refine aF ?_|refine au ?_|refine ak ?_|refine ae ?_|refine aB ?_|refine aA ?_|refine dR (by rfl) ?_)
  refine bD [0,3,11,12,13] (fun i:Nat=>i<=g.length/\(List.range i).any (lacks g set)=false) (fun i=>⟨[(0,.sl g.length (aZ g)),(3,.pref 0 [] 0),(11,.sl set.length (HL.bools set)),(12,.int .i64 set.length),(13,.int .i64 i)],[(0,.optr [.sl set.length (HL.bools set)])],1⟩) (fun i=>g.length - i) 0 ⟨by omega,rfl⟩ rfl ?_
  rintro i ⟨hi,hno⟩
  by_cases hil:i<g.length
  ·obtain ⟨row,hrow⟩:∃row,g.getD i []=row:=⟨_,rfl⟩
   have hrl:=h3 i
   rw [hrow] at hrl
   have hst:=qF i (lacks g set)
   rw [hno,Bool.false_or] at hst
   have hlk:lacks g set i=(set.getD i false&&row.any fun j=>!(set.getD j.toNat false)):=by unfold lacks;rw [hrow]
   cases hsi:set.getD i false with
   | false =>
    rw [hsi,Bool.false_and] at hlk
    repeat (first|refine ah ?_|refine bZ ?_|refine aN ?_|refine bK (by rfl) aT (by (try simp (disch:=omega) only [go_sem,hsi]);try rfl) ?_|refine ag ?_|refine az ?_|refine aI ?_|refine di (by rfl) (by rfl) (by (try simp (disch:=omega) only [go_sem,Int.reduceAdd,Int.reduceSub,Int.reduceMul,hsi]);try rfl) ?_|refine ax ?_|refine au ?_|refine ak ?_|refine ae ?_|refine aB ?_|refine dh ?_|refine aA ?_)
    exact bJ [0,3,11,12,13] (i+1) ⟨hil,hst.trans hlk⟩ (by omega) rfl
   | true =>
    rw [hsi,Bool.true_and] at hlk
    repeat (first|refine ah ?_|refine aG ?_|refine aN ?_|refine bK (by rfl) aT (by (try simp (disch:=omega) only [go_sem,hsi,hrow]);try rfl) ?_|refine ag ?_|refine az ?_|refine ax ?_|refine ak ?_|refine ae ?_|refine aB ?_|refine aA ?_)
    refine Bf aJ ?_
    repeat (first|refine aG ?_)
    refine bf aJ dI (LG row set.length set _ (fun j=>!(set.getD j.toNat false)) hrl fun x hx=>QS x set (hin i x (hrow▸hx)).1 (hin i x (hrow▸hx)).2) ?_
    rintro _ rfl
    refine ⟨dE,_,_,_,_,_,dw,(by decide),aQ,?_⟩
    cases hb:(row.any fun j=>!(set.getD j.toNat false)) with
    | true =>
     repeat (first|refine ah ?_|refine ag ?_|refine aK ?_|refine ax ?_|refine ak ?_|refine ae ?_)
     refine ay ?_
     rw [uo (lacks g set) (hst.trans (hlk.trans hb)) (show i+1<=g.length by omega)];simp [dP]
    | false =>
     repeat (first|refine ah ?_|refine ag ?_|refine aK ?_|refine bz ?_|refine au ?_|refine ae ?_|refine dh ?_|refine aA ?_)
     exact bJ [0,3,11,12,13] (i+1) ⟨hil,hst.trans (hlk.trans hb)⟩ (by omega) rfl
  ·obtain rfl:i=g.length:=by omega
   repeat (first|refine ah ?_|refine ag ?_|refine az ?_|refine aO ?_|refine au ?_|refine ak ?_|refine ae ?_)
   refine ay ?_
   rw [hno];simp [dP]
set_option maxHeartbeats 4000000 in
theorem xR (g:List (List Int)) (set:List Bool) (h1:g.length<=9223372036854775807) (h2:set.length<=9223372036854775807) (h3:∀i,(g.getD i []).length<=9223372036854775807) :
  HT Try.prog 55 [Gs g,Bl set] (fun r=>r=.bool (jf g set)):=by
 refine HT.of rfl aeo (Nat.le_of_ble_eq_true rfl) ?_
 unfold c55
 simp only [Gs,Bl,aP,Nat.reduceAdd]
 unfold jf
 repeat (first|refine ah ?_|refine ag ?_|refine ak ?_|refine ae ?_)
 refine bf aJ (by simp (disch:=omega) only [dL,Gs,HV.thaw,dC,aX,bg,if_true,if_false,reduceIte,Nat.reduceEqDiff,stripL,HV.strip,fF,dJ,eG,Nat.mul_one,List.cons_append,List.nil_append,List.append_nil,I,Bl,T3,Es,List.getD_cons_zero,List.getD_cons_succ,HL.ints_strip,HL.bools_strip,eu,dS];try rfl) (MI g set h1 h2 h3) ?_
 rintro _ rfl
 refine ⟨dE,_,_,_,_,_,dw,(by decide),aQ,?_⟩
 cases hf:kw g set with
 | false =>
  repeat (first|refine ah ?_|refine ag ?_|refine ax ?_|refine ak ?_|refine ae ?_|refine gZ (by rfl) ?_)
  refine ay ?_
  simp [dP]
 | true =>
  obtain ⟨he,hin⟩:=rV hf
  repeat (first|refine ah ?_|refine ag ?_|refine au ?_|refine ak ?_|refine ae ?_|refine aB ?_|refine aA ?_|refine dR (by rfl) ?_)
  refine bD [0,1,5] (fun i:Nat=>i<=g.length/\(List.range i).any (lacks g set)=false) (fun i=>⟨[(0,.sl g.length (aZ g)),(1,.sl set.length (HL.bools set)),(5,.int .i64 i)],[],0⟩) (fun i=>g.length - i) 0 ⟨by omega,rfl⟩ rfl ?_
  rintro i ⟨hi,hno⟩
  by_cases hil:i<g.length
  ·obtain ⟨row,hrow⟩:∃row,g.getD i []=row:=⟨_,rfl⟩
   have hrl:=h3 i
   rw [hrow] at hrl
   have hst:=qF i (lacks g set)
   rw [hno,Bool.false_or] at hst
   have hlk:lacks g set i=(set.getD i false&&row.any fun j=>!(set.getD j.toNat false)):=by unfold lacks;rw [hrow]
   repeat (first|refine ah ?_|refine ag ?_|refine az ?_|refine aF ?_|refine ax ?_|refine ak ?_|refine ae ?_|refine aB ?_|refine aA ?_)
   refine bD [0,1,5,6] (fun k:Nat=>k<=row.length/\(set.getD i false&&(row.take k).any fun j=>!(set.getD j.toNat false))=false) (fun k=>⟨[(0,.sl g.length (aZ g)),(1,.sl set.length (HL.bools set)),(5,.int .i64 i),(6,.int .i64 k)],[],0⟩) (fun k=>row.length - k) 0 ⟨by omega,by simp⟩ rfl ?_
   rintro k ⟨hk,hkn⟩
   by_cases hkl:k<row.length
   ·obtain ⟨x,hx⟩:∃x,row.getD k 0=x:=⟨_,rfl⟩
    have hxi:=hin i x (by rw [hrow,<- hx];exact lX row 0 hkl)
    have hst2:=any_take_succ row (fun j=>!(set.getD j.toNat false)) 0 hkl
    rw [hx] at hst2
    cases hsi:set.getD i false with
    | false =>
     repeat (first|refine ah ?_|refine bZ ?_|refine aN ?_|refine bK (by rfl) aT (by (try simp (disch:=omega) only [go_sem,hrow,hx,hsi]);try rfl) ?_|refine ag ?_|refine az ?_|refine aI ?_|refine di (by rfl) (by rfl) (by (try simp (disch:=omega) only [go_sem,Int.reduceAdd,Int.reduceSub,Int.reduceMul,hrow,hx,hsi]);try rfl) ?_|refine aF ?_|refine ax ?_|refine au ?_|refine ak ?_|refine ae ?_|refine aB ?_|refine dh ?_|refine aA ?_)
     exact bJ [0,1,5,6] (k+1) ⟨hkl,by (try rw [hsi]);rfl⟩ (by omega) rfl
    | true =>
     rw [hsi,Bool.true_and] at hkn hlk
     rw [hkn,Bool.false_or] at hst2
     cases hsx:set.getD x.toNat false with
     | false =>
      repeat (first|refine ah ?_|refine aG ?_|refine aN ?_|refine bK (by rfl) aT (by (try simp (disch:=omega) only [go_sem,hrow,hx,hsi,hsx]);try rfl) ?_|refine ag ?_|refine az ?_|refine aK ?_|refine aF ?_|refine ax ?_|refine ak ?_|refine ae ?_|refine aB ?_|refine aA ?_|refine gZ (by rfl) ?_)
      refine ay ?_
      rw [uo (lacks g set) (hst.trans (hlk.trans (jO row _ (hst2.trans (by rw [hsx];rfl))))) (show i+1<=g.length by omega)];simp [dP]
     | true =>
      repeat (first|refine ah ?_|refine aG ?_|refine aN ?_|refine bK (by rfl) aT (by (try simp (disch:=omega) only [go_sem,hrow,hx,hsi,hsx]);try rfl) ?_|refine ag ?_|refine az ?_|refine aK ?_|refine di (by rfl) (by rfl) (by (try simp (disch:=omega) only [go_sem,Int.reduceAdd,Int.reduceSub,Int.reduceMul,hrow,hx,hsi,hsx]);try rfl) ?_|refine aF ?_|refine ax ?_|refine au ?_|refine ak ?_|refine ae ?_|refine aB ?_|refine dh ?_|refine aA ?_|refine dR (by rfl) ?_)
      exact bJ [0,1,5,6] (k+1) ⟨hkl,by (try rw [hsi]);rw [Bool.true_and];exact hst2.trans (by rw [hsx];rfl)⟩ (by omega) rfl
   ·obtain rfl:k=row.length:=by omega
    rw [List.take_length] at hkn
    repeat (first|refine ah ?_|refine aN ?_|refine bK (by rfl) aT (by (try simp (disch:=omega) only [go_sem,hrow]);try rfl) ?_|refine ag ?_|refine az ?_|refine di (by rfl) (by rfl) (by (try simp (disch:=omega) only [go_sem,Int.reduceAdd,Int.reduceSub,Int.reduceMul,hrow]);try rfl) ?_|refine aF ?_|refine aO ?_|refine au ?_|refine ak ?_|refine ae ?_|refine dh ?_)
    exact bJ [0,1,5] (i+1) ⟨hil,hst.trans (hlk.trans hkn)⟩ (by omega) rfl
  ·obtain rfl:i=g.length:=by omega
   repeat (first|refine ah ?_|refine ag ?_|refine az ?_|refine aF ?_|refine aO ?_|refine au ?_|refine ak ?_|refine ae ?_)
   refine ay ?_
   rw [hno];simp [dP]
end Go.Proofs.Yteamkjblpglliaa
end
