import Derived.Test.YtlbdmpjnmfmnfaaFsV
import Derived.Test.YtlbdmpjnmfmnfaaFsL
import Derived.Test.YtlbdmpjnmfmnfaaFw4
section
set_option linter.unusedSimpArgs false
set_option linter.unusedVariables false
namespace Go.Proofs.Ytlbdmpjnmfmnfaa
open Go.RowKit Go.HL Go.FS
attribute [go_sem] List.length_map
end Go.Proofs.Ytlbdmpjnmfmnfaa
end
section
set_option linter.unusedSimpArgs false
set_option linter.unusedVariables false
namespace Go.Proofs.Ytlbdmpjnmfmnfaa
open Go.RowKit Go.HL Go.FS
end Go.Proofs.Ytlbdmpjnmfmnfaa
end
section
set_option linter.unusedSimpArgs false
set_option linter.unusedVariables false
namespace Go.Proofs.Ytlbdmpjnmfmnfaa
open Go.RowKit Go.HL Go.FS
end Go.Proofs.Ytlbdmpjnmfmnfaa
end
section
set_option linter.unusedSimpArgs false
set_option linter.unusedVariables false
namespace Go.Proofs.Ytlbdmpjnmfmnfaa
open Go.RowKit Go.HL Go.FS
def xn (fin:List Bool) (al:List A) (w:List Int) (most:Int):Prop:=okF fin al=true/\1<=most/\most<=64/\w.length<=1024
open Classical in
def PS (fin:List Bool) (al:List A) (w:List Int) (most:Int) (r:HV):Prop:=if xn fin al w most then ZI fin al w most r else r=.tup [.osl 1 0 [],.int .i64 1]
theorem BC {fin:List Bool} {al:List A} {w:List Int} {most:Int} {r:HV} (h:¬ xn fin al w most) (hr:r=.tup [.osl 1 0 [],.int .i64 1]):PS fin al w most r:=by unfold PS;rw [if_neg h];exact hr
set_option maxHeartbeats 16000000 in
theorem NJ (fin:List Bool) (al:List A) (w:List Int) (most:Int) (hf:fin.length<=9223372036854775807) (ha:al.length<=9223372036854775807) (hwl:w.length<=9223372036854775807):HT Try.prog 17 [.agg (iF fin al),.sl w.length (HL.ints w),.int .i64 most] (PS fin al w most):=by
 refine HT.of rfl aad (Nat.le_of_ble_eq_true rfl) ?_
 unfold c17
 have hvd:=jF fin al hf ha
 have hst:=KY fin al w
 have hwd:=fun G=>Az fin al w G [(0,0)]
 simp only [aY,Nat.reduceAdd]
 simp only [iF,jJ] at hvd hst ⊢
 repeat (first|refine ah ?_|refine af ?_|refine ak ?_|refine ae ?_|refine bK ?_|refine gq ?_|refine dX ?_)
 refine bT bH dw (hvd) ?_
 rintro _ rfl
 by_cases hv:okF fin al=true
 ·rw [hv]
  refine ⟨bJ,_,_,_,_,_,gY,(by decide),bF,?_⟩
  by_cases m1:most<1
  ·repeat (first|refine ah ?_|refine aT ?_|refine dI ?_|refine af ?_|refine aF ?_|refine aU ?_|refine aS ?_|refine ax ?_|refine ak ?_|refine ae ?_|refine bK ?_|refine iU (by rfl) ?_)
   refine ay ?_
   exact BC (fun h=>by have:=h.2.1;omega) rfl
  by_cases m2:64<most
  ·repeat (first|refine ah ?_|refine aT ?_|refine dI ?_|refine af ?_|refine aF ?_|refine aU ?_|refine aS ?_|refine ax ?_|refine ak ?_|refine ae ?_|refine bK ?_|refine bP ?_|refine iU (by rfl) ?_)
   refine ay ?_
   exact BC (fun h=>by have:=h.2.2.1;omega) rfl
  by_cases m3:(1024:Int)<(w.length:Int)
  ·repeat (first|refine ah ?_|refine aT ?_|refine aW ?_|refine af ?_|refine aF ?_|refine aS ?_|refine dm (by rfl) ?_|refine ax ?_|refine ak ?_|refine ae ?_|refine bK ?_|refine bP ?_|refine iU (by rfl) ?_)
   refine ay ?_
   exact BC (fun h=>by have:=h.2.2.2;omega) rfl
  have hok:xn fin al w most:=⟨hv,by omega,by omega,by omega⟩
  have hw:w.length<=1024:=by omega
  have hfl:=iE (·.f) fin.length al
  repeat (first|refine ah ?_|refine aT ?_|refine aW ?_|refine af ?_|refine aF ?_|refine aS ?_|refine dm (by rfl) ?_|refine au ?_|refine ak ?_|refine ae ?_|refine aI ?_|refine bP ?_|refine iU (by rfl) ?_|refine gq ?_)
  refine bT bH dw (hst hv hw) ?_
  rintro _ ⟨G,rfl,hGn,hG⟩
  simp only [Ub]
  refine ⟨bJ,_,_,_,_,_,gY,(by decide),bF,?_⟩
  repeat (first|refine ah ?_|refine af ?_)
  have hK:PS fin al w most=ZI fin al w most:=by funext r;unfold PS;rw [if_pos hok]
  rw [hK]
  have hin:∀a∈al,0<=a.f/\a.f<fin.length:=fun a ha=>by have:=fD hv ha;omega
  have hGl:G.length<=4194304:=by
   have h1:=sV hGn fun x hx=>ui hin ((hG x).1 hx)
   obtain ⟨h2,h3,h4⟩:=gm hv
   have:fin.length*(w.length+1)<=2048*1025:=Nat.mul_le_mul h3 (by omega)
   omega
  refine bU 352 [2,3,4,8] ⟨[(2,.int .i64 most),(3,.pref 0 [] 0),(4,.pref 1 [] 0),(8,.ptr (stripL [.sl w.length (HL.ints w),.osl 1 (bD (·.f) fin.length al).length (fM (bD (·.f) fin.length al)),.omap ⟨.ints 2,none⟩ (G.map pk) (kT G.length)]) 0)],[(0,.optr (iF fin al)),(1,.optr [.sl w.length (HL.ints w)])],2⟩ rfl ?_
  rw [IY]
  have h0:=aag hG
  by_cases hg:((0,0):Nd)∈G
  ·have hd:decide (((0,0):Nd)∈G)=true:=decide_eq_true hg
   rw [if_pos hg] at h0
   have hgd:∀x∈[((0,0):Nd)],FS.Good fin al w x:=fun x hx=>by
    simp only [List.mem_singleton] at hx;subst hx;exact (hG _).1 hg
   have hwd':HTM Try.prog 55 [.ptr [.sl w.length (HL.ints w),.sl (bD (·.f) fin.length al).length (eU (bD (·.f) fin.length al)),.rmap ⟨.ints 2,none⟩ (G.map pk) (kT G.length)] 0,.osl 2 1 [.int .i64 0,.int .i64 0]] (fun r=>∃L,r=.osl 2 L.length (nY L)/\(∀x,x∈L <-> Cl fin al w (·∈[((0,0):Nd)]) x)/\L.length<=[((0,0):Nd)].length+G.length):=hwd G hv hw hG hGl hgd (by simp)
   simp only [runT]
   repeat (first|refine ah ?_|refine jf (by rfl) aQ (by (try simp (disch:=omega) only [go_sem,hd]);try rfl) ?_|refine af ?_|refine ax ?_|refine ak ?_|refine ae ?_|refine bK ?_|refine dh ?_|refine cO ?_|refine Gx (eV rfl) aJ ⟨rfl,rfl⟩ (by (try simp (disch:=omega) only [go_sem,reduceIte,Nat.reduceEqDiff,Nat.reduceAdd,Nat.reduceMul,hd]);try rfl) (by rfl) ?_|refine gX aJ rfl ?_|refine bY ?_)
   refine Bi [] [] bH Eo RH rfl (by decide) (hwd') ?_
   rintro _ outs ⟨L,rfl,hL,hLl⟩ hol
   obtain rfl:=List.eq_nil_of_length_eq_zero hol
   refine ⟨_,_,_,_,_,gY,(by decide),IC,?_⟩
   repeat (first|refine ah ?_|refine af ?_|refine ak ?_|refine ae ?_|refine aK ?_|refine bK ?_|refine tN dZ bH aO jh (by simp) (by rfl) (by rfl) (by rfl) ?_|refine gZ dZ (by rfl) aJ sK kz bQ aO dZ (by omega) iC aQ F6 aO (by rfl) ?_|refine bY ?_)
   refine nT (Weak.norm2 [2,3,4,8,9,10,11] _) ?_
   exact xO fin al w G most [([],L)] (bD (·.f) fin.length al) rfl hv hw (by omega) (by omega) hG hGl (by rw [h0];rfl) (fun q hq=>by
    simp only [List.mem_singleton] at hq
    subst hq
    exact row0 hG hg hL (by simpa using hLl))
  ·have hd:decide (((0,0):Nd)∈G)=false:=decide_eq_false hg
   rw [if_neg hg] at h0
   simp only [runT]
   repeat (first|refine ah ?_|refine jf (by rfl) aQ (by (try simp (disch:=omega) only [go_sem,hd]);try rfl) ?_|refine af ?_|refine au ?_|refine ak ?_|refine ae ?_|refine aK ?_|refine aI ?_|refine bK ?_|refine dh ?_|refine Gx (eV rfl) aJ ⟨rfl,rfl⟩ (by (try simp (disch:=omega) only [go_sem,reduceIte,Nat.reduceEqDiff,Nat.reduceAdd,Nat.reduceMul,hd]);try rfl) (by rfl) ?_|refine gX aJ rfl ?_|refine bY ?_)
   refine nT (Weak.norm2 [2,3,4,8,9,10,11] _) ?_
   exact xO fin al w G most [] (bD (·.f) fin.length al) rfl hv hw (by omega) (by omega) hG hGl (by rw [h0];rfl) (by simp)
 ·rw [show okF fin al=false by simpa using hv]
  refine ⟨bJ,_,_,_,_,_,gY,(by decide),bF,?_⟩
  repeat (first|refine ah ?_|refine dI ?_|refine af ?_|refine aU ?_|refine ax ?_|refine ak ?_|refine ae ?_|refine bK ?_|refine jC (by rfl) ?_)
  refine ay ?_
  exact BC (fun h=>hv h.1) rfl
end Go.Proofs.Ytlbdmpjnmfmnfaa
end
section
set_option linter.unusedSimpArgs false
set_option linter.unusedVariables false
namespace Go.Proofs.Ytlbdmpjnmfmnfaa
open Go.RowKit Go.HL Go.FS
end Go.Proofs.Ytlbdmpjnmfmnfaa
end
