import Derived.Test.YtlbdmpjnmfmnfaaFsL
set_option linter.unusedSimpArgs false
set_option linter.unusedVariables false
namespace Go.Proofs.Ytlbdmpjnmfmnfaa
open Go.RowKit Go.HL Go.FS
def qR (fin:List Bool) (al:List A) (w:List Int) (most:Int):Prop:=okF fin al=true/\1<=most/\most<=64/\w.length<=1024
open Classical in
def Ku (fin:List Bool) (al:List A) (w:List Int) (most:Int) (r:HV):Prop:=if qR fin al w most then Yv fin al w most r else r=.tup [.osl 1 0 [],.int .i64 1]
theorem zO {fin:List Bool} {al:List A} {w:List Int} {most:Int} {r:HV} (h:¬ qR fin al w most) (hr:r=.tup [.osl 1 0 [],.int .i64 1]):Ku fin al w most r:=by unfold Ku;rw [if_neg h];exact hr
set_option maxHeartbeats 16000000 in
theorem Am (fin:List Bool) (al:List A) (w:List Int) (most:Int) (hf:fin.length<=9223372036854775807) (ha:al.length<=9223372036854775807) (hwl:w.length<=9223372036854775807):HT Try.prog 17 [.agg (gX fin al),.sl w.length (HL.ints w),.int .i64 most] (Ku fin al w most):=by
 refine HT.of rfl YE (Nat.le_of_ble_eq_true rfl) ?_
 unfold c17
 have hvd:=sF fin al hf ha
 have hst:=IV fin al w
 have hwd:=fun G=>zB fin al w G [(0,0)]
 simp only [aW,Nat.reduceAdd]
 simp only [gX,ji] at hvd hst ⊢
 repeat (first|refine ag ?_|refine af ?_|refine ah ?_|refine ae ?_|refine bG ?_|refine gK ?_|refine fF ?_)
 refine bZ bJ cZ (hvd) ?_
 rintro _ rfl
 by_cases hv:okF fin al=true
 ·rw [hv]
  refine ⟨bP,_,_,_,_,_,gV,(by decide),bH,?_⟩
  by_cases m1:most<1
  ·repeat (first|refine ag ?_|refine aQ ?_|refine dm ?_|refine af ?_|refine az ?_|refine aO ?_|refine aK ?_|refine ak ?_|refine ah ?_|refine ae ?_|refine bG ?_|refine ja (by rfl) ?_)
   refine ax ?_
   exact zO (fun h=>by have:=h.2.1;omega) rfl
  by_cases m2:64<most
  ·repeat (first|refine ag ?_|refine aQ ?_|refine dm ?_|refine af ?_|refine az ?_|refine aO ?_|refine aK ?_|refine ak ?_|refine ah ?_|refine ae ?_|refine bG ?_|refine bW ?_|refine ja (by rfl) ?_)
   refine ax ?_
   exact zO (fun h=>by have:=h.2.2.1;omega) rfl
  by_cases m3:(1024:Int)<(w.length:Int)
  ·repeat (first|refine ag ?_|refine aQ ?_|refine aY ?_|refine af ?_|refine az ?_|refine aK ?_|refine aP ?_|refine ak ?_|refine ah ?_|refine ae ?_|refine bG ?_|refine bW ?_|refine ja (by rfl) ?_)
   refine ax ?_
   exact zO (fun h=>by have:=h.2.2.2;omega) rfl
  have hok:qR fin al w most:=⟨hv,by omega,by omega,by omega⟩
  have hw:w.length<=1024:=by omega
  have hfl:=gU (·.f) fin.length al
  repeat (first|refine ag ?_|refine aQ ?_|refine aY ?_|refine af ?_|refine az ?_|refine aK ?_|refine aP ?_|refine au ?_|refine ah ?_|refine ae ?_|refine aA ?_|refine bW ?_|refine ja (by rfl) ?_|refine gK ?_)
  refine bZ bJ cZ (hst hv hw) ?_
  rintro _ ⟨G,rfl,hGn,hG⟩
  simp only [RP]
  refine ⟨bP,_,_,_,_,_,gV,(by decide),bH,?_⟩
  repeat (first|refine ag ?_|refine af ?_)
  have hK:Ku fin al w most=Yv fin al w most:=by funext r;unfold Ku;rw [if_pos hok]
  rw [hK]
  have hin:∀a∈al,0<=a.f/\a.f<fin.length:=fun a ha=>by have:=fU hv ha;omega
  have hGl:G.length<=4194304:=by
   have h1:=rD hGn fun x hx=>rZ hin ((hG x).1 hx)
   obtain ⟨h2,h3,h4⟩:=jH hv
   have:fin.length*(w.length+1)<=2048*1025:=Nat.mul_le_mul h3 (by omega)
   omega
  refine bM 352 [2,3,4,8] ⟨[(2,.int .i64 most),(3,.pref 0 [] 0),(4,.pref 1 [] 0),(8,.ptr (stripL [.sl w.length (HL.ints w),.osl 1 (bD (·.f) fin.length al).length (fA (bD (·.f) fin.length al)),.omap ⟨.ints 2,none⟩ (G.map pk) (jV G.length)]) 0)],[(0,.optr (gX fin al)),(1,.optr [.sl w.length (HL.ints w)])],2⟩ rfl ?_
  rw [Hl]
  have h0:=Yj hG
  by_cases hg:((0,0):Nd)∈G
  ·have hd:decide (((0,0):Nd)∈G)=true:=decide_eq_true hg
   rw [if_pos hg] at h0
   have hgd:∀x∈[((0,0):Nd)],FS.Good fin al w x:=fun x hx=>by
    simp only [List.mem_singleton] at hx;subst hx;exact (hG _).1 hg
   have hwd':HTM Try.prog 55 [.ptr [.sl w.length (HL.ints w),.sl (bD (·.f) fin.length al).length (dW (bD (·.f) fin.length al)),.rmap ⟨.ints 2,none⟩ (G.map pk) (jV G.length)] 0,.osl 2 1 [.int .i64 0,.int .i64 0]] (fun r=>∃L,r=.osl 2 L.length (rG L)/\(∀x,x∈L <-> Cl fin al w (·∈[((0,0):Nd)]) x)/\L.length<=[((0,0):Nd)].length+G.length):=hwd G hv hw hG hGl hgd (by simp)
   simp only [runT]
   repeat (first|refine ag ?_|refine jc (by rfl) aS (by (try simp (disch:=omega) only [go_sem,hd]);try rfl) ?_|refine af ?_|refine ak ?_|refine ah ?_|refine ae ?_|refine bG ?_|refine dD ?_|refine bQ ?_|refine FC (eV rfl) aJ ⟨rfl,rfl⟩ (by (try simp (disch:=omega) only [go_sem,reduceIte,Nat.reduceEqDiff,Nat.reduceAdd,Nat.reduceMul,hd]);try rfl) (by rfl) ?_|refine gq aJ rfl ?_|refine di ?_)
   refine zV [] [] bJ Em Pm rfl (by decide) (hwd') ?_
   rintro _ outs ⟨L,rfl,hL,hLl⟩ hol
   obtain rfl:=List.eq_nil_of_length_eq_zero hol
   refine ⟨_,_,_,_,_,gV,(by decide),Ia,?_⟩
   repeat (first|refine ag ?_|refine af ?_|refine ah ?_|refine ae ?_|refine aG ?_|refine bG ?_|refine vJ dZ bJ aV jK (by simp) (by rfl) (by rfl) (by rfl) ?_|refine jM ?_|refine di ?_)
   refine kY (Weak.norm2 [2,3,4,8,9,10,11] _) ?_
   exact xu fin al w G most [([],L)] (bD (·.f) fin.length al) rfl hv hw (by omega) (by omega) hG hGl (by rw [h0];rfl) (fun q hq=>by
    simp only [List.mem_singleton] at hq
    subst hq
    exact row0 hG hg hL (by simpa using hLl))
  ·have hd:decide (((0,0):Nd)∈G)=false:=decide_eq_false hg
   rw [if_neg hg] at h0
   simp only [runT]
   repeat (first|refine ag ?_|refine jc (by rfl) aS (by (try simp (disch:=omega) only [go_sem,hd]);try rfl) ?_|refine af ?_|refine au ?_|refine ah ?_|refine ae ?_|refine aG ?_|refine aA ?_|refine bG ?_|refine dD ?_|refine FC (eV rfl) aJ ⟨rfl,rfl⟩ (by (try simp (disch:=omega) only [go_sem,reduceIte,Nat.reduceEqDiff,Nat.reduceAdd,Nat.reduceMul,hd]);try rfl) (by rfl) ?_|refine gq aJ rfl ?_|refine di ?_)
   refine kY (Weak.norm2 [2,3,4,8,9,10,11] _) ?_
   exact xu fin al w G most [] (bD (·.f) fin.length al) rfl hv hw (by omega) (by omega) hG hGl (by rw [h0];rfl) (by simp)
 ·rw [show okF fin al=false by simpa using hv]
  refine ⟨bP,_,_,_,_,_,gV,(by decide),bH,?_⟩
  repeat (first|refine ag ?_|refine dm ?_|refine af ?_|refine aO ?_|refine ak ?_|refine ah ?_|refine ae ?_|refine bG ?_|refine iK (by rfl) ?_)
  refine ax ?_
  exact zO (fun h=>hv h.1) rfl
end Go.Proofs.Ytlbdmpjnmfmnfaa
