import Derived.Test.YtlbdmpjnmfmnfaaFsL
set_option linter.unusedSimpArgs false
set_option linter.unusedVariables false
namespace Go.Proofs.Ytlbdmpjnmfmnfaa
open Go.RowKit Go.HL Go.FS
def rH (fin:List Bool) (al:List A) (w:List Int) (most:Int):Prop:=okF fin al=true/\1<=most/\most<=64/\w.length<=1024
open Classical in
def JJ (fin:List Bool) (al:List A) (w:List Int) (most:Int) (r:HV):Prop:=if rH fin al w most then Xf fin al w most r else r=.tup [.osl 1 0 [],.int .i64 1]
theorem yZ {fin:List Bool} {al:List A} {w:List Int} {most:Int} {r:HV} (h:¬ rH fin al w most) (hr:r=.tup [.osl 1 0 [],.int .i64 1]):JJ fin al w most r:=by unfold JJ;rw [if_neg h];exact hr
set_option maxHeartbeats 16000000 in
theorem BC (fin:List Bool) (al:List A) (w:List Int) (most:Int) (hf:fin.length<=9223372036854775807) (ha:al.length<=9223372036854775807) (hwl:w.length<=9223372036854775807):HT Try.prog 17 [.agg (gQ fin al),.sl w.length (HL.ints w),.int .i64 most] (JJ fin al w most):=by
 refine HT.of rfl Xq (Nat.le_of_ble_eq_true rfl) ?_
 unfold c17
 have hvd:=rq fin al hf ha
 have hst:=IL fin al w
 have hwd:=fun G=>yD fin al w G [(0,0)]
 simp only [aS,Nat.reduceAdd]
 simp only [gQ,jC] at hvd hst ⊢
 repeat (first|refine ag ?_|refine af ?_|refine ah ?_|refine ae ?_|refine dR rfl (by rfl) dI ?_|refine gz ?_|refine fC ?_)
 refine bI bD cO (hvd) ?_
 rintro _ rfl
 by_cases hv:okF fin al=true
 ·rw [hv]
  refine ⟨bF,_,_,_,_,_,gq,(by decide),bC,?_⟩
  by_cases m1:most<1
  ·repeat (first|refine ag ?_|refine aK ?_|refine bV ?_|refine af ?_|refine az ?_|refine aN ?_|refine aI ?_|refine au ?_|refine ah ?_|refine ae ?_|refine dR rfl (by rfl) dI ?_|refine iY (by rfl) ?_)
   refine ax ?_
   exact yZ (fun h=>by have:=h.2.1;omega) rfl
  by_cases m2:64<most
  ·repeat (first|refine ag ?_|refine aK ?_|refine bV ?_|refine af ?_|refine az ?_|refine aN ?_|refine aI ?_|refine au ?_|refine ah ?_|refine ae ?_|refine dR rfl (by rfl) dI ?_|refine bU ?_|refine iY (by rfl) ?_)
   refine ax ?_
   exact yZ (fun h=>by have:=h.2.2.1;omega) rfl
  by_cases m3:(1024:Int)<(w.length:Int)
  ·repeat (first|refine ag ?_|refine aK ?_|refine aV ?_|refine af ?_|refine az ?_|refine aI ?_|refine bY (by rfl) ?_|refine au ?_|refine ah ?_|refine ae ?_|refine dR rfl (by rfl) dI ?_|refine bU ?_|refine iY (by rfl) ?_)
   refine ax ?_
   exact yZ (fun h=>by have:=h.2.2.2;omega) rfl
  have hok:rH fin al w most:=⟨hv,by omega,by omega,by omega⟩
  have hw:w.length<=1024:=by omega
  have hfl:=gB (·.f) fin.length al
  repeat (first|refine ag ?_|refine aK ?_|refine aV ?_|refine af ?_|refine az ?_|refine aI ?_|refine bY (by rfl) ?_|refine ak ?_|refine ah ?_|refine ae ?_|refine aF ?_|refine bU ?_|refine iY (by rfl) ?_|refine gz ?_)
  refine bI bD cO (hst hv hw) ?_
  rintro _ ⟨G,rfl,hGn,hG⟩
  simp only [PD]
  refine ⟨bF,_,_,_,_,_,gq,(by decide),bC,?_⟩
  repeat (first|refine ag ?_|refine af ?_)
  have hK:JJ fin al w most=Xf fin al w most:=by funext r;unfold JJ;rw [if_pos hok]
  rw [hK]
  have hin:∀a∈al,0<=a.f/\a.f<fin.length:=fun a ha=>by have:=gJ hv ha;omega
  have hGl:G.length<=4194304:=by
   have h1:=qG hGn fun x hx=>pW hin ((hG x).1 hx)
   obtain ⟨h2,h3,h4⟩:=jZ hv
   have:fin.length*(w.length+1)<=2048*1025:=Nat.mul_le_mul h3 (by omega)
   omega
  refine bT 352 [2,3,4,8] ⟨[(2,.int .i64 most),(3,.pref 0 [] 0),(4,.pref 1 [] 0),(8,.ptr (stripL [.sl w.length (HL.ints w),.osl 1 (bz (·.f) fin.length al).length (eG (bz (·.f) fin.length al)),.omap ⟨.ints 2,none⟩ (G.map pk) (jU G.length)]) 0)],[(0,.optr (gQ fin al)),(1,.optr [.sl w.length (HL.ints w)])],2⟩ rfl ?_
  rw [Gh]
  have h0:=WU hG
  by_cases hg:((0,0):Nd)∈G
  ·have hd:decide (((0,0):Nd)∈G)=true:=decide_eq_true hg
   rw [if_pos hg] at h0
   have hgd:∀x∈[((0,0):Nd)],FS.Good fin al w x:=fun x hx=>by
    simp only [List.mem_singleton] at hx;subst hx;exact (hG _).1 hg
   have hwd':HTM Try.prog 55 [.ptr [.sl w.length (HL.ints w),.sl (bz (·.f) fin.length al).length (dV (bz (·.f) fin.length al)),.rmap ⟨.ints 2,none⟩ (G.map pk) (jU G.length)] 0,.osl 2 1 [.int .i64 0,.int .i64 0]] (fun r=>∃L,r=.osl 2 L.length (qX L)/\(∀x,x∈L <-> Cl fin al w (·∈[((0,0):Nd)]) x)/\L.length<=[((0,0):Nd)].length+G.length):=hwd G hv hw hG hGl hgd (by simp)
   simp only [runT]
   repeat (first|refine ag ?_|refine iL (by rfl) aT (by (try simp (disch:=omega) only [go_sem,hd]);try rfl) ?_|refine af ?_|refine au ?_|refine ah ?_|refine ae ?_|refine dR rfl (by rfl) dI ?_|refine dw ?_|refine bW ?_|refine Fa (eV rfl) aO ⟨rfl,rfl⟩ (by (try simp (disch:=omega) only [go_sem,reduceIte,Nat.reduceEqDiff,Nat.reduceAdd,Nat.reduceMul,hd]);try rfl) (by rfl) ?_|refine fV aO rfl ?_|refine cZ ?_)
   refine yR [] [] bD BZ Ol rfl (by decide) (hwd') ?_
   rintro _ outs ⟨L,rfl,hL,hLl⟩ hol
   obtain rfl:=List.eq_nil_of_length_eq_zero hol
   refine ⟨_,_,_,_,_,gq,(by decide),Hg,?_⟩
   repeat (first|refine ag ?_|refine af ?_|refine ah ?_|refine ae ?_|refine aH ?_|refine dR rfl (by rfl) dI ?_|refine vF dI bD aQ jJ (by simp) (by rfl) (by rfl) (by rfl) ?_|refine gm dI (by rfl) aO rE jG bH aQ dI (by omega) gX aT Fj aQ (by rfl) ?_|refine cZ ?_)
   refine lM (Weak.norm2 [2,3,4,8,9,10,11] _) ?_
   exact vW fin al w G most [([],L)] (bz (·.f) fin.length al) rfl hv hw (by omega) (by omega) hG hGl (by rw [h0];rfl) (fun q hq=>by
    simp only [List.mem_singleton] at hq
    subst hq
    exact row0 hG hg hL (by simpa using hLl))
  ·have hd:decide (((0,0):Nd)∈G)=false:=decide_eq_false hg
   rw [if_neg hg] at h0
   simp only [runT]
   repeat (first|refine ag ?_|refine iL (by rfl) aT (by (try simp (disch:=omega) only [go_sem,hd]);try rfl) ?_|refine af ?_|refine ak ?_|refine ah ?_|refine ae ?_|refine aH ?_|refine aF ?_|refine dR rfl (by rfl) dI ?_|refine dw ?_|refine Fa (eV rfl) aO ⟨rfl,rfl⟩ (by (try simp (disch:=omega) only [go_sem,reduceIte,Nat.reduceEqDiff,Nat.reduceAdd,Nat.reduceMul,hd]);try rfl) (by rfl) ?_|refine fV aO rfl ?_|refine cZ ?_)
   refine lM (Weak.norm2 [2,3,4,8,9,10,11] _) ?_
   exact vW fin al w G most [] (bz (·.f) fin.length al) rfl hv hw (by omega) (by omega) hG hGl (by rw [h0];rfl) (by simp)
 ·rw [show okF fin al=false by simpa using hv]
  refine ⟨bF,_,_,_,_,_,gq,(by decide),bC,?_⟩
  repeat (first|refine ag ?_|refine bV ?_|refine af ?_|refine aN ?_|refine au ?_|refine ah ?_|refine ae ?_|refine dR rfl (by rfl) dI ?_|refine jK (by rfl) ?_)
  refine ax ?_
  exact yZ (fun h=>hv h.1) rfl
end Go.Proofs.Ytlbdmpjnmfmnfaa
