import Derived.Test.YtlbdmpjnmfmnfaaFsL
import Derived.Test.YtlbdmpjnmfmnfaaFsN
section
set_option linter.unusedSimpArgs false
set_option linter.unusedVariables false
namespace Go.Proofs.Ytlbdmpjnmfmnfaa
open Go.RowKit Go.HL Go.FS
theorem zX {α:Type} {l m:List α} (h:l.length≠m.length):l≠m:=fun e=>h (by rw [e])
theorem nZ {α:Type} {l m:List α} {n:Nat} (hl:l.length=n) (hm:m.length=n) (h:l.take n=m.take n):l=m:=by
 rw [List.take_of_length_le (Nat.le_of_eq hl),List.take_of_length_le (Nat.le_of_eq hm)] at h;exact h
theorem Bo (u v:List Int) (hu:u.length<=1000000000) (hv:v.length<=1000000000):HT Try.prog 62 [.sl u.length (HL.ints u),.sl v.length (HL.ints v)] (fun r=>r=.bool (decide (u=v))):=by
 refine HT.of rfl ZM (Nat.le_of_ble_eq_true rfl) ?_
 unfold c62
 simp only [aW,Nat.reduceAdd]
 by_cases hl:u.length=v.length
 ·repeat (first|refine ah ?_|refine af ?_|refine kM (by rfl) (by rfl) kQ ?_|refine aI ?_|refine ax ?_|refine au ?_|refine ae ?_|refine aA ?_|refine aF ?_)
  refine bW [0,1,5] (fun k:Nat=>k<=u.length/\u.take k=v.take k)
   (fun k=>⟨[(0,.sl u.length (HL.ints u)),(1,.sl v.length (HL.ints v)),(5,.int .i64 k)],[],0⟩)
   (fun k=>u.length - k) 0 ⟨by omega,by simp⟩ rfl ?_
  rintro k ⟨hk,ht⟩
  by_cases hkl:k<u.length
  ·have h1:=dA hkl
   have h2:=dA (l:=v) (k:=k) (by omega)
   by_cases he:u.getD k 0=v.getD k 0
   ·repeat (first|refine ah ?_|refine af ?_|refine az ?_|refine aI ?_|refine ak ?_|refine au ?_|refine ae ?_|refine aA ?_|refine aF ?_)
    refine dV aY aY (fun _ _ _=>False) ?_
    repeat (first|refine ah ?_|refine aO ?_|refine di ?_|refine af ?_|refine kM (by rfl) (by rfl) kQ ?_|refine bY ?_|refine ax ?_|refine ae ?_|refine dL ?_|refine aF ?_)
    exact dm [0,1,5] (k+1) ⟨hkl,by rw [h1,h2,ht];exact congrArg (fun x=>v.take k++[x]) he⟩ (by omega) rfl
   ·repeat (first|refine ah ?_|refine af ?_|refine az ?_|refine aI ?_|refine ak ?_|refine au ?_|refine ae ?_|refine aA ?_|refine aF ?_)
    refine dV aY aY (fun _ _ _=>False) ?_
    repeat (first|refine ah ?_|refine aO ?_|refine di ?_|refine af ?_|refine kM (by rfl) (by rfl) kQ ?_|refine ak ?_|refine au ?_|refine ae ?_)
    refine ay ?_
    have:u≠v:=fun e=>he (by rw [e])
    simp [dw,this]
  ·obtain rfl:k=u.length:=by omega
   have:=nZ rfl hl.symm ht
   repeat (first|refine ah ?_|refine af ?_|refine az ?_|refine aI ?_|refine bQ (by rfl) ?_|refine ax ?_|refine au ?_|refine ae ?_)
   refine ay ?_
   simp [dw,this]
 ·repeat (first|refine ah ?_|refine af ?_|refine kM (by rfl) (by rfl) kQ ?_|refine aI ?_|refine ak ?_|refine au ?_|refine ae ?_)
  refine ay ?_
  have:=zX hl
  simp [dw,this]
def gr (l:List (List Int)):List HV:=l.map fun u=>.sl u.length (HL.ints u)
theorem SK (l:List (List Int)):(gr l).length=l.length:=by simp [gr]
theorem Ph (l:List (List Int)) {k:Nat} (h:k<l.length):(gr l).getD k .dead=.sl (l.getD k []).length (HL.ints (l.getD k [])):=by simp [gr,h]
attribute [go_sem] SK Ph
theorem V4 (l:List (List Int)):(wds l).map X5=gr l:=by
 unfold wds gr
 rw [List.map_map]
 refine List.map_congr_left fun u _=>?_
 by_cases h:u=[]
 ·subst h;rfl
 ·simp only [Function.comp,wR,if_neg h];rfl
set_option maxHeartbeats 4000000 in
theorem Hy (l m:List (List Int)) (hl:l.length<=1000000000) (hm:m.length<=1000000000) (hu:∀u∈l,u.length<=1000000000) (hv:∀u∈m,u.length<=1000000000):HT Try.prog 19 [.sl l.length (gr l),.sl m.length (gr m)] (fun r=>r=.bool (decide (l=m))):=by
 refine HT.of rfl ZQ (Nat.le_of_ble_eq_true rfl) ?_
 unfold c19
 simp only [aW,Nat.reduceAdd]
 by_cases hlm:l.length=m.length
 ·repeat (first|refine ah ?_|refine af ?_|refine kM (by rfl) (by rfl) kQ ?_|refine aI ?_|refine ax ?_|refine au ?_|refine ae ?_|refine aA ?_|refine aF ?_)
  refine bW [0,1,5] (fun k:Nat=>k<=l.length/\l.take k=m.take k)
   (fun k=>⟨[(0,.sl l.length (gr l)),(1,.sl m.length (gr m)),(5,.int .i64 k)],[],0⟩)
   (fun k=>l.length - k) 0 ⟨by omega,by simp⟩ rfl ?_
  rintro k ⟨hk,ht⟩
  by_cases hkl:k<l.length
  ·have h1:=dA hkl
   have h2:=dA (l:=m) (k:=k) (by omega)
   have hs:=Bo (l.getD k []) (m.getD k []) (hu _ (by rw [List.getD_eq_getElem?_getD,List.getElem?_eq_getElem hkl];exact List.getElem_mem _)) (hv _ (by rw [List.getD_eq_getElem?_getD,List.getElem?_eq_getElem (show k<m.length by omega)];exact List.getElem_mem _))
   by_cases he:l.getD k []=m.getD k []
   ·rw [decide_eq_true he] at hs
    repeat (first|refine ah ?_|refine af ?_|refine az ?_|refine aI ?_|refine ak ?_|refine au ?_|refine ae ?_|refine aA ?_|refine aF ?_)
    refine dV aY aY (fun _ _ r=>r=.bool true) ?_
    repeat (first|refine ah ?_|refine aO ?_|refine di ?_)
    refine dK bK dh hs ⟨_,rfl,rfl⟩ ?_
    rintro _ rfl -
    refine ⟨bP,_,_,_,_,_,gU,(by decide),bJ,?_⟩
    repeat (first|refine ah ?_|refine af ?_|refine bY ?_|refine ax ?_|refine ae ?_|refine dL ?_|refine aF ?_|refine iJ (by rfl) ?_)
    exact dm [0,1,5] (k+1) ⟨hkl,by rw [h1,h2,ht];exact congrArg (fun x=>m.take k++[x]) he⟩ (by omega) rfl
   ·rw [decide_eq_false he] at hs
    repeat (first|refine ah ?_|refine af ?_|refine az ?_|refine aI ?_|refine ak ?_|refine au ?_|refine ae ?_|refine aA ?_|refine aF ?_)
    refine dV aY aY (fun _ _ r=>r=.bool false) ?_
    repeat (first|refine ah ?_|refine aO ?_|refine di ?_)
    refine dK bK dh hs ⟨_,rfl,rfl⟩ ?_
    rintro _ rfl -
    refine ⟨bP,_,_,_,_,_,gU,(by decide),bJ,?_⟩
    repeat (first|refine ah ?_|refine af ?_|refine ak ?_|refine au ?_|refine ae ?_|refine je (by rfl) ?_)
    refine ay ?_
    have:l≠m:=fun e=>he (by rw [e])
    simp [dw,this]
  ·obtain rfl:k=l.length:=by omega
   have:=nZ rfl hlm.symm ht
   repeat (first|refine ah ?_|refine af ?_|refine az ?_|refine aI ?_|refine bQ (by rfl) ?_|refine ax ?_|refine au ?_|refine ae ?_)
   refine ay ?_
   simp [dw,this]
 ·repeat (first|refine ah ?_|refine af ?_|refine kM (by rfl) (by rfl) kQ ?_|refine aI ?_|refine ak ?_|refine au ?_|refine ae ?_)
  refine ay ?_
  have:=zX hlm
  simp [dw,this]
theorem sD (l m:List (List Int)) (hl:l.length<=1000000000) (hm:m.length<=1000000000) (hu:∀u∈l,u.length<=1000000000) (hv:∀u∈m,u.length<=1000000000):HT Try.prog 19 [.sl l.length (wds l),.sl m.length (wds m)] (fun r=>r=.bool (decide (l=m))) :=
 HT.arg (fun F h rvs o=>by
  have:=OM o
  simpa only [List.map_cons,List.map_nil,dn1,V4] using this) (Hy l m hl hm hu hv)
end Go.Proofs.Ytlbdmpjnmfmnfaa
end
section
set_option linter.unusedSimpArgs false
set_option linter.unusedVariables false
namespace Go.Proofs.Ytlbdmpjnmfmnfaa
open Go.RowKit Go.HL Go.FS
def GG (fin:List Bool) (al:List A) (w:List Int) (most:Int):Prop:=okF fin al=true/\1<=most/\most<=64/\w.length<=1024
open Classical in
def Ot (fin:List Bool) (al:List A) (w:List Int) (most:Int) (r:HV):Prop:=if GG fin al w most then Zy fin al w most r else r=.tup [.osl 1 0 [],.int .i64 1]
theorem zN {fin:List Bool} {al:List A} {w:List Int} {most:Int} {r:HV} (h:¬ GG fin al w most) (hr:r=.tup [.osl 1 0 [],.int .i64 1]):Ot fin al w most r:=by unfold Ot;rw [if_neg h];exact hr
set_option maxHeartbeats 16000000 in
theorem JH (fin:List Bool) (al:List A) (w:List Int) (most:Int) (hf:fin.length<=9223372036854775807) (ha:al.length<=9223372036854775807) (hwl:w.length<=9223372036854775807):HT Try.prog 17 [.agg (fA fin al),.sl w.length (HL.ints w),.int .i64 most] (Ot fin al w most):=by
 refine HT.of rfl Z4 (Nat.le_of_ble_eq_true rfl) ?_
 unfold c17
 have hvd:=kD fin al hf ha
 have hst:=KP fin al w
 have hwd:=fun G=>zS fin al w G [(0,0)]
 simp only [aW,Nat.reduceAdd]
 simp only [fA,iw] at hvd hst ⊢
 repeat (first|refine ah ?_|refine af ?_|refine au ?_|refine ae ?_|refine bT ?_|refine fZ ?_|refine dD ?_)
 refine dG bK dh (hvd) ?_
 rintro _ rfl
 by_cases hv:okF fin al=true
 ·rw [hv]
  refine ⟨bP,_,_,_,_,_,gU,(by decide),bJ,?_⟩
  by_cases m1:most<1
  ·repeat (first|refine ah ?_|refine aN ?_|refine dn ?_|refine af ?_|refine az ?_|refine aV ?_|refine aP ?_|refine ak ?_|refine au ?_|refine ae ?_|refine bT ?_|refine iJ (by rfl) ?_)
   refine ay ?_
   exact zN (fun h=>by have:=h.2.1;omega) rfl
  by_cases m2:64<most
  ·repeat (first|refine ah ?_|refine aN ?_|refine dn ?_|refine af ?_|refine az ?_|refine aV ?_|refine aP ?_|refine ak ?_|refine au ?_|refine ae ?_|refine bT ?_|refine bV ?_|refine iJ (by rfl) ?_)
   refine ay ?_
   exact zN (fun h=>by have:=h.2.2.1;omega) rfl
  by_cases m3:(1024:Int)<(w.length:Int)
  ·repeat (first|refine ah ?_|refine aN ?_|refine aU ?_|refine af ?_|refine az ?_|refine aP ?_|refine aI ?_|refine ak ?_|refine au ?_|refine ae ?_|refine bT ?_|refine bV ?_|refine iJ (by rfl) ?_)
   refine ay ?_
   exact zN (fun h=>by have:=h.2.2.2;omega) rfl
  have hok:GG fin al w most:=⟨hv,by omega,by omega,by omega⟩
  have hw:w.length<=1024:=by omega
  have hfl:=iL (·.f) fin.length al
  repeat (first|refine ah ?_|refine aN ?_|refine aU ?_|refine af ?_|refine az ?_|refine aP ?_|refine aI ?_|refine ax ?_|refine au ?_|refine ae ?_|refine aF ?_|refine bV ?_|refine iJ (by rfl) ?_|refine fZ ?_)
  refine dG bK dh (hst hv hw) ?_
  rintro _ ⟨G,rfl,hGn,hG⟩
  simp only [Q4]
  refine ⟨bP,_,_,_,_,_,gU,(by decide),bJ,?_⟩
  repeat (first|refine ah ?_|refine af ?_)
  have hK:Ot fin al w most=Zy fin al w most:=by funext r;unfold Ot;rw [if_pos hok]
  rw [hK]
  have hin:∀a∈al,0<=a.f/\a.f<fin.length:=fun a ha=>by have:=eU hv ha;omega
  have hGl:G.length<=4194304:=by
   have h1:=rV hGn fun x hx=>vN hin ((hG x).1 hx)
   obtain ⟨h2,h3,h4⟩:=jf hv
   have:fin.length*(w.length+1)<=2048*1025:=Nat.mul_le_mul h3 (by omega)
   omega
  refine bg 352 [2,3,4,8] ⟨[(2,.int .i64 most),(3,.pref 0 [] 0),(4,.pref 1 [] 0),(8,.ptr (stripL [.sl w.length (HL.ints w),.osl 1 (bM (·.f) fin.length al).length (fP (bM (·.f) fin.length al)),.omap ⟨.ints 2,none⟩ (G.map pk) (lg G.length)]) 0)],[(0,.optr (fA fin al)),(1,.optr [.sl w.length (HL.ints w)])],2⟩ rfl ?_
  rw [II]
  have h0:=aaw hG
  by_cases hg:((0,0):Nd)∈G
  ·have hd:decide (((0,0):Nd)∈G)=true:=decide_eq_true hg
   rw [if_pos hg] at h0
   have hgd:∀x∈[((0,0):Nd)],FS.Good fin al w x:=fun x hx=>by
    simp only [List.mem_singleton] at hx;subst hx;exact (hG _).1 hg
   have hwd':HTM Try.prog 55 [.ptr [.sl w.length (HL.ints w),.sl (bM (·.f) fin.length al).length (fD (bM (·.f) fin.length al)),.rmap ⟨.ints 2,none⟩ (G.map pk) (lg G.length)] 0,.osl 2 1 [.int .i64 0,.int .i64 0]] (fun r=>∃L,r=.osl 2 L.length (su L)/\(∀x,x∈L <-> Cl fin al w (·∈[((0,0):Nd)]) x)/\L.length<=[((0,0):Nd)].length+G.length):=hwd G hv hw hG hGl hgd (by simp)
   simp only [runT]
   repeat (first|refine ah ?_|refine eG (by rfl) aG (by (try simp (disch:=omega) only [go_sem,hd]);try rfl) ?_|refine af ?_|refine ak ?_|refine au ?_|refine ae ?_|refine bT ?_|refine aX ?_|refine bU ?_|refine Fa (eV rfl) aJ ⟨rfl,rfl⟩ (by (try simp (disch:=omega) only [go_sem,reduceIte,Nat.reduceEqDiff,Nat.reduceAdd,Nat.reduceMul,hd]);try rfl) (by rfl) ?_|refine iC aJ rfl ?_|refine bZ ?_)
   refine sV [] [] bK zq OV rfl (by decide) (hwd') ?_
   rintro _ outs ⟨L,rfl,hL,hLl⟩ hol
   obtain rfl:=List.eq_nil_of_length_eq_zero hol
   refine ⟨_,_,_,_,_,gU,(by decide),Ai,?_⟩
   repeat (first|refine ah ?_|refine af ?_|refine au ?_|refine ae ?_|refine aA ?_|refine bT ?_|refine xC dS bK aK jy (by simp) (by rfl) (by rfl) (by rfl) ?_|refine iD dS (by rfl) aJ rD kL bn aK dS (by omega) iH aG ET aK (by rfl) ?_|refine bZ ?_)
   refine lm (Weak.norm2 [2,3,4,8,9,10,11] _) ?_
   exact xR fin al w G most [([],L)] (bM (·.f) fin.length al) rfl hv hw (by omega) (by omega) hG hGl (by rw [h0];rfl) (fun q hq=>by
    simp only [List.mem_singleton] at hq
    subst hq
    exact row0 hG hg hL (by simpa using hLl))
  ·have hd:decide (((0,0):Nd)∈G)=false:=decide_eq_false hg
   rw [if_neg hg] at h0
   simp only [runT]
   repeat (first|refine ah ?_|refine eG (by rfl) aG (by (try simp (disch:=omega) only [go_sem,hd]);try rfl) ?_|refine af ?_|refine ax ?_|refine au ?_|refine ae ?_|refine aA ?_|refine aF ?_|refine bT ?_|refine aX ?_|refine Fa (eV rfl) aJ ⟨rfl,rfl⟩ (by (try simp (disch:=omega) only [go_sem,reduceIte,Nat.reduceEqDiff,Nat.reduceAdd,Nat.reduceMul,hd]);try rfl) (by rfl) ?_|refine iC aJ rfl ?_|refine bZ ?_)
   refine lm (Weak.norm2 [2,3,4,8,9,10,11] _) ?_
   exact xR fin al w G most [] (bM (·.f) fin.length al) rfl hv hw (by omega) (by omega) hG hGl (by rw [h0];rfl) (by simp)
 ·rw [show okF fin al=false by simpa using hv]
  refine ⟨bP,_,_,_,_,_,gU,(by decide),bJ,?_⟩
  repeat (first|refine ah ?_|refine dn ?_|refine af ?_|refine aV ?_|refine ak ?_|refine au ?_|refine ae ?_|refine bT ?_|refine je (by rfl) ?_)
  refine ay ?_
  exact zN (fun h=>hv h.1) rfl
end Go.Proofs.Ytlbdmpjnmfmnfaa
end
