import Derived.Test.YtlbdmpjnmfmnfaaFsL
import Derived.Test.YtlbdmpjnmfmnfaaHlNv
section
set_option linter.unusedSimpArgs false
set_option linter.unusedVariables false
namespace Go.Proofs.Ytlbdmpjnmfmnfaa
open Go.RowKit Go.HL Go.FS
theorem Nc {α:Type} {l m:List α} (h:l.length≠m.length):l≠m:=fun e=>h (by rw [e])
theorem xE {α:Type} {l m:List α} {n:Nat} (hl:l.length=n) (hm:m.length=n) (h:l.take n=m.take n):l=m:=by
 rw [List.take_of_length_le (Nat.le_of_eq hl),List.take_of_length_le (Nat.le_of_eq hm)] at h;exact h
theorem BP (u v:List Int) (hu:u.length<=1000000000) (hv:v.length<=1000000000):HT Try.prog 62 [.sl u.length (HL.ints u),.sl v.length (HL.ints v)] (fun r=>r=.bool (decide (u=v))):=by
 refine HT.of rfl abl (Nat.le_of_ble_eq_true rfl) ?_
 unfold c62
 simp only [aX,Nat.reduceAdd]
 by_cases hl:u.length=v.length
 ·repeat (first|refine ah ?_|refine af ?_|refine lh (by rfl) (by rfl) lw ?_|refine aB ?_|refine ax ?_|refine au ?_|refine ae ?_|refine aA ?_|refine aH ?_)
  refine bQ [0,1,5] (fun k:Nat=>k<=u.length/\u.take k=v.take k)
   (fun k=>⟨[(0,.sl u.length (HL.ints u)),(1,.sl v.length (HL.ints v)),(5,.int .i64 k)],[],0⟩)
   (fun k=>u.length - k) 0 ⟨by omega,by simp⟩ rfl ?_
  rintro k ⟨hk,ht⟩
  by_cases hkl:k<u.length
  ·have h1:=dE hkl
   have h2:=dE (l:=v) (k:=k) (by omega)
   by_cases he:u.getD k 0=v.getD k 0
   ·repeat (first|refine ah ?_|refine af ?_|refine ay ?_|refine aB ?_|refine ak ?_|refine au ?_|refine ae ?_|refine aA ?_|refine aH ?_)
    refine dG bu bu (fun _ _ _=>False) ?_
    repeat (first|refine ah ?_|refine aJ ?_|refine dD ?_|refine af ?_|refine lh (by rfl) (by rfl) lw ?_|refine bf ?_|refine ax ?_|refine ae ?_|refine dH ?_|refine aH ?_)
    exact bZ [0,1,5] (k+1) ⟨hkl,by rw [h1,h2,ht];exact congrArg (fun x=>v.take k++[x]) he⟩ (by omega) rfl
   ·repeat (first|refine ah ?_|refine af ?_|refine ay ?_|refine aB ?_|refine ak ?_|refine au ?_|refine ae ?_|refine aA ?_|refine aH ?_)
    refine dG bu bu (fun _ _ _=>False) ?_
    repeat (first|refine ah ?_|refine aJ ?_|refine dD ?_|refine af ?_|refine lh (by rfl) (by rfl) lw ?_|refine ak ?_|refine au ?_|refine ae ?_)
    refine az ?_
    have:u≠v:=fun e=>he (by rw [e])
    simp [dJ,this]
  ·obtain rfl:k=u.length:=by omega
   have:=xE rfl hl.symm ht
   repeat (first|refine ah ?_|refine af ?_|refine ay ?_|refine aB ?_|refine bD (by rfl) ?_|refine ax ?_|refine au ?_|refine ae ?_)
   refine az ?_
   simp [dJ,this]
 ·repeat (first|refine ah ?_|refine af ?_|refine lh (by rfl) (by rfl) lw ?_|refine aB ?_|refine ak ?_|refine au ?_|refine ae ?_)
  refine az ?_
  have:=Nc hl
  simp [dJ,this]
def gr (l:List (List Int)):List HV:=l.map fun u=>.sl u.length (HL.ints u)
theorem QI (l:List (List Int)):(gr l).length=l.length:=by simp [gr]
theorem TN (l:List (List Int)) {k:Nat} (h:k<l.length):(gr l).getD k .dead=.sl (l.getD k []).length (HL.ints (l.getD k [])):=by simp [gr,h]
attribute [go_sem] QI TN
theorem Za (l:List (List Int)):(wds l).map dn0=gr l:=by
 unfold wds gr
 rw [List.map_map]
 refine List.map_congr_left fun u _=>?_
 by_cases h:u=[]
 ·subst h;rfl
 ·simp only [Function.comp,wR,if_neg h];rfl
set_option maxHeartbeats 4000000 in
theorem G8 (l m:List (List Int)) (hl:l.length<=1000000000) (hm:m.length<=1000000000) (hu:∀u∈l,u.length<=1000000000) (hv:∀u∈m,u.length<=1000000000):HT Try.prog 19 [.sl l.length (gr l),.sl m.length (gr m)] (fun r=>r=.bool (decide (l=m))):=by
 refine HT.of rfl abY (Nat.le_of_ble_eq_true rfl) ?_
 unfold c19
 simp only [aX,Nat.reduceAdd]
 by_cases hlm:l.length=m.length
 ·repeat (first|refine ah ?_|refine af ?_|refine lh (by rfl) (by rfl) lw ?_|refine aB ?_|refine ax ?_|refine au ?_|refine ae ?_|refine aA ?_|refine aH ?_)
  refine bQ [0,1,5] (fun k:Nat=>k<=l.length/\l.take k=m.take k)
   (fun k=>⟨[(0,.sl l.length (gr l)),(1,.sl m.length (gr m)),(5,.int .i64 k)],[],0⟩)
   (fun k=>l.length - k) 0 ⟨by omega,by simp⟩ rfl ?_
  rintro k ⟨hk,ht⟩
  by_cases hkl:k<l.length
  ·have h1:=dE hkl
   have h2:=dE (l:=m) (k:=k) (by omega)
   have hs:=BP (l.getD k []) (m.getD k []) (hu _ (by rw [List.getD_eq_getElem?_getD,List.getElem?_eq_getElem hkl];exact List.getElem_mem _)) (hv _ (by rw [List.getD_eq_getElem?_getD,List.getElem?_eq_getElem (show k<m.length by omega)];exact List.getElem_mem _))
   by_cases he:l.getD k []=m.getD k []
   ·rw [decide_eq_true he] at hs
    repeat (first|refine ah ?_|refine af ?_|refine ay ?_|refine aB ?_|refine ak ?_|refine au ?_|refine ae ?_|refine aA ?_|refine aH ?_)
    refine dG bu bu (fun _ _ r=>r=.bool true) ?_
    repeat (first|refine ah ?_|refine aJ ?_|refine dD ?_)
    refine fD bW dm hs ⟨_,rfl,rfl⟩ ?_
    rintro _ rfl -
    refine ⟨cO,_,_,_,_,_,gY,(by decide),bT,?_⟩
    repeat (first|refine ah ?_|refine af ?_|refine bf ?_|refine ax ?_|refine ae ?_|refine dH ?_|refine aH ?_|refine gI (by rfl) ?_)
    exact bZ [0,1,5] (k+1) ⟨hkl,by rw [h1,h2,ht];exact congrArg (fun x=>m.take k++[x]) he⟩ (by omega) rfl
   ·rw [decide_eq_false he] at hs
    repeat (first|refine ah ?_|refine af ?_|refine ay ?_|refine aB ?_|refine ak ?_|refine au ?_|refine ae ?_|refine aA ?_|refine aH ?_)
    refine dG bu bu (fun _ _ r=>r=.bool false) ?_
    repeat (first|refine ah ?_|refine aJ ?_|refine dD ?_)
    refine fD bW dm hs ⟨_,rfl,rfl⟩ ?_
    rintro _ rfl -
    refine ⟨cO,_,_,_,_,_,gY,(by decide),bT,?_⟩
    repeat (first|refine ah ?_|refine af ?_|refine ak ?_|refine au ?_|refine ae ?_|refine iG (by rfl) ?_)
    refine az ?_
    have:l≠m:=fun e=>he (by rw [e])
    simp [dJ,this]
  ·obtain rfl:k=l.length:=by omega
   have:=xE rfl hlm.symm ht
   repeat (first|refine ah ?_|refine af ?_|refine ay ?_|refine aB ?_|refine bD (by rfl) ?_|refine ax ?_|refine au ?_|refine ae ?_)
   refine az ?_
   simp [dJ,this]
 ·repeat (first|refine ah ?_|refine af ?_|refine lh (by rfl) (by rfl) lw ?_|refine aB ?_|refine ak ?_|refine au ?_|refine ae ?_)
  refine az ?_
  have:=Nc hlm
  simp [dJ,this]
theorem lM (l m:List (List Int)) (hl:l.length<=1000000000) (hm:m.length<=1000000000) (hu:∀u∈l,u.length<=1000000000) (hv:∀u∈m,u.length<=1000000000):HT Try.prog 19 [.sl l.length (wds l),.sl m.length (wds m)] (fun r=>r=.bool (decide (l=m))) :=
 HT.arg (fun F h rvs o=>by
  have:=Pm o
  simpa only [List.map_cons,List.map_nil,dn1,Za] using this) (G8 l m hl hm hu hv)
theorem G9 {fin:List Bool} {al:List A} {w:List Int} {G:List Nd} {most:Int} (hk:uz al) (hG:∀x,x∈G <-> FS.Good fin al w x) {l:List (List Int)} (h:Lst fin al w most l):∀u∈l,u.length<=G.length:=by
 intro u hu
 have ho:=(h.mem hk).1 hu
 have hm:=(kT (n:=u.length) hk).2 ⟨ho.beg,rfl⟩
 rcases Nat.lt_or_ge G.length u.length with h2|h2
 ·exact absurd h (Gs hk (fun x hx=>(hG x).2 hx) h2 (fun e=>by rw [e] at hm;cases hm))
 ·exact h2
end Go.Proofs.Ytlbdmpjnmfmnfaa
end
section
set_option linter.unusedSimpArgs false
set_option linter.unusedVariables false
namespace Go.Proofs.Ytlbdmpjnmfmnfaa
open Go.RowKit Go.HL Go.FS
def tH (fin:List Bool) (al:List A) (w:List Int) (most:Int):Prop:=okF fin al=true/\1<=most/\most<=64/\w.length<=1024
open Classical in
def Gz (fin:List Bool) (al:List A) (w:List Int) (most:Int) (r:HV):Prop:=if tH fin al w most then Z7 fin al w most r else r=.tup [.osl 1 0 [],.int .i64 1]
theorem qJ {fin:List Bool} {al:List A} {w:List Int} {most:Int} {r:HV} (h:¬ tH fin al w most) (hr:r=.tup [.osl 1 0 [],.int .i64 1]):Gz fin al w most r:=by unfold Gz;rw [if_neg h];exact hr
set_option maxHeartbeats 16000000 in
theorem CE (fin:List Bool) (al:List A) (w:List Int) (most:Int) (hf:fin.length<=9223372036854775807) (ha:al.length<=9223372036854775807) (hwl:w.length<=9223372036854775807):HT Try.prog 17 [.agg (fK fin al),.sl w.length (HL.ints w),.int .i64 most] (Gz fin al w most):=by
 refine HT.of rfl abX (Nat.le_of_ble_eq_true rfl) ?_
 unfold c17
 have hvd:=tJ fin al hf ha
 have hst:=Ll fin al w
 have hwd:=fun G=>Ae fin al w G [(0,0)]
 simp only [aX,Nat.reduceAdd]
 simp only [fK,gX] at hvd hst ⊢
 repeat (first|refine ah ?_|refine af ?_|refine au ?_|refine ae ?_|refine aZ ?_|refine fU ?_|refine di ?_)
 refine dF bW dm (hvd) ?_
 rintro _ rfl
 by_cases hv:okF fin al=true
 ·rw [hv]
  refine ⟨cO,_,_,_,_,_,gY,(by decide),bT,?_⟩
  by_cases m1:most<1
  ·repeat (first|refine ah ?_|refine aO ?_|refine cu ?_|refine af ?_|refine ay ?_|refine aK ?_|refine aN ?_|refine ak ?_|refine au ?_|refine ae ?_|refine aZ ?_|refine gI (by rfl) ?_)
   refine az ?_
   exact qJ (fun h=>by have:=h.2.1;omega) rfl
  by_cases m2:64<most
  ·repeat (first|refine ah ?_|refine aO ?_|refine cu ?_|refine af ?_|refine ay ?_|refine aK ?_|refine aN ?_|refine ak ?_|refine au ?_|refine ae ?_|refine aZ ?_|refine bI ?_|refine gI (by rfl) ?_)
   refine az ?_
   exact qJ (fun h=>by have:=h.2.2.1;omega) rfl
  by_cases m3:(1024:Int)<(w.length:Int)
  ·repeat (first|refine ah ?_|refine aO ?_|refine aS ?_|refine af ?_|refine ay ?_|refine aN ?_|refine aB ?_|refine ak ?_|refine au ?_|refine ae ?_|refine aZ ?_|refine bI ?_|refine gI (by rfl) ?_)
   refine az ?_
   exact qJ (fun h=>by have:=h.2.2.2;omega) rfl
  have hok:tH fin al w most:=⟨hv,by omega,by omega,by omega⟩
  have hw:w.length<=1024:=by omega
  have hfl:=fJ (·.f) fin.length al
  repeat (first|refine ah ?_|refine aO ?_|refine aS ?_|refine af ?_|refine ay ?_|refine aN ?_|refine aB ?_|refine ax ?_|refine au ?_|refine ae ?_|refine aH ?_|refine bI ?_|refine gI (by rfl) ?_|refine fU ?_)
  refine dF bW dm (hst hv hw) ?_
  rintro _ ⟨G,rfl,hGn,hG⟩
  simp only [UC]
  refine ⟨cO,_,_,_,_,_,gY,(by decide),bT,?_⟩
  repeat (first|refine ah ?_|refine af ?_)
  have hK:Gz fin al w most=Z7 fin al w most:=by funext r;unfold Gz;rw [if_pos hok]
  rw [hK]
  have hin:∀a∈al,0<=a.f/\a.f<fin.length:=fun a ha=>by have:=fE hv ha;omega
  have hGl:G.length<=4194304:=by
   have h1:=iP hGn fun x hx=>jd hin ((hG x).1 hx)
   obtain ⟨h2,h3,h4⟩:=iF hv
   have:fin.length*(w.length+1)<=2048*1025:=Nat.mul_le_mul h3 (by omega)
   omega
  refine bF 352 [2,3,4,8] ⟨[(2,.int .i64 most),(3,.pref 0 [] 0),(4,.pref 1 [] 0),(8,.ptr (stripL [.sl w.length (HL.ints w),.osl 1 (bn (·.f) fin.length al).length (fA (bn (·.f) fin.length al)),.omap ⟨.ints 2,none⟩ (G.map pk) (kU G.length)]) 0)],[(0,.optr (fK fin al)),(1,.optr [.sl w.length (HL.ints w)])],2⟩ rfl ?_
  rw [GY]
  have h0:=Yq hG
  by_cases hg:((0,0):Nd)∈G
  ·have hd:decide (((0,0):Nd)∈G)=true:=decide_eq_true hg
   rw [if_pos hg] at h0
   have hgd:∀x∈[((0,0):Nd)],FS.Good fin al w x:=fun x hx=>by
    simp only [List.mem_singleton] at hx;subst hx;exact (hG _).1 hg
   have hwd':HTM Try.prog 55 [.ptr [.sl w.length (HL.ints w),.sl (bn (·.f) fin.length al).length (dL (bn (·.f) fin.length al)),.rmap ⟨.ints 2,none⟩ (G.map pk) (kU G.length)] 0,.osl 2 1 [.int .i64 0,.int .i64 0]] (fun r=>∃L,r=.osl 2 L.length (sO L)/\(∀x,x∈L <-> Cl fin al w (·∈[((0,0):Nd)]) x)/\L.length<=[((0,0):Nd)].length+G.length):=hwd G hv hw hG hGl hgd (by simp)
   simp only [runT]
   repeat (first|refine ah ?_|refine dA (by rfl) aG (by (try simp (disch:=omega) only [go_sem,hd]);try rfl) ?_|refine af ?_|refine ak ?_|refine au ?_|refine ae ?_|refine aZ ?_|refine aY ?_|refine bP ?_|refine FX (eV rfl) aQ ⟨rfl,rfl⟩ (by (try simp (disch:=omega) only [go_sem,reduceIte,Nat.reduceEqDiff,Nat.reduceAdd,Nat.reduceMul,hd]);try rfl) (by rfl) ?_|refine iD aQ rfl ?_|refine dB ?_)
   refine zW [] [] bW Et Tn rfl (by decide) (hwd') ?_
   rintro _ outs ⟨L,rfl,hL,hLl⟩ hol
   obtain rfl:=List.eq_nil_of_length_eq_zero hol
   refine ⟨_,_,_,_,_,gY,(by decide),GZ,?_⟩
   repeat (first|refine ah ?_|refine af ?_|refine au ?_|refine ae ?_|refine aA ?_|refine aZ ?_|refine oN dN bW aI iW (by simp) (by rfl) (by rfl) (by rfl) ?_|refine gp dN (by rfl) aQ l9 ji aW aI dN (by omega) fP aG Cf aI (by rfl) ?_|refine dB ?_)
   refine iT (Weak.norm2 [2,3,4,8,9,10,11] _) ?_
   exact xR fin al w G most [([],L)] (bn (·.f) fin.length al) rfl hv hw (by omega) (by omega) hG hGl (by rw [h0];rfl) (fun q hq=>by
    simp only [List.mem_singleton] at hq
    subst hq
    exact row0 hG hg hL (by simpa using hLl))
  ·have hd:decide (((0,0):Nd)∈G)=false:=decide_eq_false hg
   rw [if_neg hg] at h0
   simp only [runT]
   repeat (first|refine ah ?_|refine dA (by rfl) aG (by (try simp (disch:=omega) only [go_sem,hd]);try rfl) ?_|refine af ?_|refine ax ?_|refine au ?_|refine ae ?_|refine aA ?_|refine aH ?_|refine aZ ?_|refine aY ?_|refine FX (eV rfl) aQ ⟨rfl,rfl⟩ (by (try simp (disch:=omega) only [go_sem,reduceIte,Nat.reduceEqDiff,Nat.reduceAdd,Nat.reduceMul,hd]);try rfl) (by rfl) ?_|refine iD aQ rfl ?_|refine dB ?_)
   refine iT (Weak.norm2 [2,3,4,8,9,10,11] _) ?_
   exact xR fin al w G most [] (bn (·.f) fin.length al) rfl hv hw (by omega) (by omega) hG hGl (by rw [h0];rfl) (by simp)
 ·rw [show okF fin al=false by simpa using hv]
  refine ⟨cO,_,_,_,_,_,gY,(by decide),bT,?_⟩
  repeat (first|refine ah ?_|refine cu ?_|refine af ?_|refine aK ?_|refine ak ?_|refine au ?_|refine ae ?_|refine aZ ?_|refine iG (by rfl) ?_)
  refine az ?_
  exact qJ (fun h=>hv h.1) rfl
end Go.Proofs.Ytlbdmpjnmfmnfaa
end
