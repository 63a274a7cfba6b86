import Derived.Test.YtlbdmpjnmfmnfaaFsU
import Derived.Test.YtlbdmpjnmfmnfaaFsB
import Derived.Test.YtlbdmpjnmfmnfaaFsN
import Derived.Test.YtlbdmpjnmfmnfaaFsL
import Derived.Test.YtlbdmpjnmfmnfaaFsX
set_option linter.unusedSimpArgs false
set_option linter.unusedVariables false
set_option maxHeartbeats 16000000
section
namespace Go.Proofs.Ytlbdmpjnmfmnfaa
open Go.RowKit Go.HL Go.FS
theorem Rw (ll:List (List A)) {n:Nat} (h:ll.length=n):stripL (win (dw ll) 0 (n*1))=bF ll:=by
 rw [<- ku,win,if_pos ⟨rfl,by rw [qw];omega⟩]
def abt (w:List Int) (ll:List (List A)) (gb:List Bool):HV:=.agg [.sl w.length (HL.ints w),.osl 1 ll.length (dw ll),.osl 1 gb.length (HL.bools gb)]
theorem Vq (fin:List Bool) (al:List A) (w:List Int) (hv:okF fin al=true) (hw:w.length<=1024):HT Try.prog 59 [.agg (dE fin al),.sl w.length (HL.ints w)] (fun r=>∃G gb,r=abt w (aG (·.f) fin.length al) gb/\GB fin.length w G gb/\G.Nodup/\∀x,x∈G <-> FS.Good fin al w x):=by
 obtain ⟨h1,h2,h3⟩:=bY hv
 have hin:∀a∈al,0<=a.f/\a.f<fin.length:=fun a ha=>by have:=cu hv ha;omega
 have hgb:=qm (n:=fin.length) (w:=w) h2 hw
 refine HT.ofC rfl afx [4] rfl (aZ rfl) ?_
 unfold c59
 simp only [aA,Nat.reduceAdd,dE,fB]
 refine zF ⟨?_⟩
 refine az 0 [1,2,4,5,6,7] ⟨[(1,.sl w.length (HL.ints w)),(2,.ptr (stripL [.sl fin.length (HL.bools fin),.sl al.length (recs aC al)]) 0),(4,.pref 0 [] 0),(5,.int .i64 ((w.length:Int)+1)),(6,.ref 1 [] 1 0 fin.length),(7,.int .i64 0)],[(0,.optr [.nils,.nils,.nils]),(1,.osl 1 fin.length (dw (List.replicate fin.length [])))],2⟩ rfl ?_
 rw [gu,<- xe (·.t)]
 refine aI [1,2,4,5,6,7] (fun k:Nat=>k<=al.length)
  (fun k=>⟨[(1,.sl w.length (HL.ints w)),(2,.ptr [.sl fin.length (HL.bools fin),.sl al.length (recs aC al)] 0),(4,.pref 0 [] 0),(5,.int .i64 ((w.length:Int)+1)),(6,.ref 1 [] 1 0 fin.length),(7,.int .i64 k)],[(0,.optr [.nils,.nils,.nils]),(1,.osl 1 fin.length (dw (aG (·.t) fin.length (al.take k))))],2⟩)
  (fun k=>al.length - k) 0 (by omega) rfl ?_
 intro k hk
 by_cases hkl:k<al.length
 ·have ha:=cu hv (fJ hkl)
  have hlen:=dD (·.t) fin.length (al.take k)
  have hrow:((aG (·.t) fin.length (al.take k)).getD (al.getD k default).t.toNat []).length<=8192:=jc wG (by simp;omega)
  have hst:=uq (p:=(·.t)) (n:=fin.length) (l:=al.take k) (a:=al.getD k default) (j:=(al.getD k default).t.toNat) (by omega)
  rw [<- bK hkl] at hst
  have hro:=zn (aG (·.t) fin.length (al.take k)) (al.getD k default).t.toNat ((aG (·.t) fin.length (al.take k)).getD (al.getD k default).t.toNat []++[al.getD k default]) .dead (n:=((aG (·.t) fin.length (al.take k)).getD (al.getD k default).t.toNat []).length+1) (by simp)
  rw [hst] at hro
  refine zF ⟨?_⟩
  refine iW [2,7] [6] ah ah (fun _ _ _=>False) (by simp [ax,HV.deep,aO,bJ,bP]) (by simp [ax,HV.deep,aO]) ?_
  refine eH @hro ⟨?_⟩
  exact aP [1,2,4,5,6,7] (k+1) hkl (by omega) rfl
 ·obtain rfl:k=al.length:=by omega
  rw [fK]
  obtain ⟨N,hN⟩:∃N,fin.length*(w.length+1)=N:=⟨_,rfl⟩
  have hNi:(((w.length:Int)+1)*(fin.length:Int))=(N:Int):=by rw [<- hN];push_cast;exact Int.mul_comm _ _
  have hG0:=GB.start hN
  have htl:=dD (·.t) fin.length al
  have hrt:∀i:Nat,i<fin.length->(aG (·.t) fin.length al).getD i []=al.filter fun a=>a.t==(i:Int):=fun i hi=>kV _ _ hi
  generalize hLT:aG (·.t) fin.length al=LT at htl hrt
  rw [hN] at hgb
  refine eH @hNi ⟨?_⟩
  refine az 1 [1,2,4,5,6,8,9,10] ⟨[(1,.sl w.length (HL.ints w)),(2,.ptr [.sl fin.length (HL.bools fin),.sl al.length (recs aC al)] 0),(4,.pref 0 [] 0),(5,.int .i64 ((w.length:Int)+1)),(6,.sl fin.length (bF LT)),(8,.ref 1 [] 1 0 N),(9,.ref 2 [] 1 0 0),(10,.int .i64 0)],[(0,.optr [.nils,.nils,.nils]),(1,.osl 1 N (HL.bools (List.replicate N false))),(2,.osl 1 0 [])],3⟩ (by rw [<- Rw LT htl];rfl) ?_
  refine aI [1,2,4,5,6,8,9,10] (fun s:Nat×List Bool×List Nd=>s.1<=fin.length/\s.2.2=Lm fin w s.1/\GB fin.length w s.2.2 s.2.1)
   (fun s=>⟨[(1,.sl w.length (HL.ints w)),(2,.ptr [.sl fin.length (HL.bools fin),.sl al.length (recs aC al)] 0),(4,.pref 0 [] 0),(5,.int .i64 ((w.length:Int)+1)),(6,.sl fin.length (bF LT)),(8,.ref 1 [] 1 0 N),(9,.ref 2 [] 1 0 s.2.2.length),(10,.int .i64 s.1)],[(0,.optr [.nils,.nils,.nils]),(1,.osl 1 N (HL.bools s.2.1)),(2,.osl 1 s.2.2.length (vZ w s.2.2))],3⟩)
   (fun s=>fin.length - s.1) (0,List.replicate N false,[]) ⟨by simp,rfl,hG0⟩ rfl ?_
  rintro ⟨k,gb,L⟩ ⟨hk,hL,hg⟩
  simp only at hk hL hg ⊢
  have hgl:=hg.len
  rw [hN] at hgl
  have hLl:=Xy (fin:=fin) (w:=w) k
  rw [<- hL] at hLl
  by_cases hkl:k<fin.length
  ·have hxin:Ah fin.length w ((k:Int),(w.length:Int)):=⟨by simp only;omega,by simp only;omega,by simp only;omega,by simp only;omega⟩
   have h4:=J9 hxin
   have h5:=uQ hxin
   rw [hN] at h5
   unfold cd at h5
   simp only at h4 h5
   have h6:0<=(k:Int)*((w.length:Int)+1)/\(k:Int)*((w.length:Int)+1)+(w.length:Int)<=3000000:=⟨h4.1,by
    generalize (k:Int)*((w.length:Int)+1)=p at h5
    omega⟩
   cases hb:fin.getD k false with
   | true =>
    have hst:=Yr (w:=w) hb
    rw [<- hL] at hst
    have hll:(L++[((k:Int),(w.length:Int))]).length=L.length+1:=by simp
    refine eH @hb ⟨?_⟩
    exact aP [1,2,4,5,6,8,9,10] (k+1,gb.set (cd w.length ((k:Int),(w.length:Int))).toNat true,L++[((k:Int),(w.length:Int))]) ⟨hkl,hst.symm,hg.add hxin⟩ dL (by simp only [hll,<- vX];rfl)
   | false =>
    have hst:=Z7 (w:=w) hb
    rw [<- hL] at hst
    refine eH @hb ⟨?_⟩
    exact aP [1,2,4,5,6,8,9,10] (k+1,gb,L) ⟨hkl,hst.symm,hg⟩ dL rfl
  ·obtain rfl:k=fin.length:=by omega
   have hri:=RI.start (al:=al) hL
   refine zF ⟨?_⟩
   refine aI [1,2,4,5,6,8,9,11] (fun s:Nat×List Bool×List Nd=>RI fin al w s.1 s.2.2/\GB fin.length w s.2.2 s.2.1/\s.1<=s.2.2.length)
    (fun s=>⟨[(1,.sl w.length (HL.ints w)),(2,.ptr [.sl fin.length (HL.bools fin),.sl al.length (recs aC al)] 0),(4,.pref 0 [] 0),(5,.int .i64 ((w.length:Int)+1)),(6,.sl fin.length (bF LT)),(8,.ref 1 [] 1 0 N),(9,.ref 2 [] 1 0 s.2.2.length),(11,.int .i64 s.1)],[(0,.optr [.nils,.nils,.nils]),(1,.osl 1 N (HL.bools s.2.1)),(2,.osl 1 s.2.2.length (vZ w s.2.2))],3⟩)
    (fun s=>(N - s.2.2.length)+(s.2.2.length - s.1)) (0,gb,L) ⟨hri,hg,by simp⟩ rfl ?_
   clear hL hLl hg hgl hri gb L
   rintro ⟨i,gb,L⟩ ⟨hri,hg,hil⟩
   simp only at hri hg hil ⊢
   have hgl:=hg.len
   rw [hN] at hgl
   have hcard:=kw hri.nd fun x hx=>(hri.good x hx).2
   rw [hN] at hcard
   by_cases hi:i<L.length
   ·obtain ⟨hvg,hvi⟩:=hri.good (L.getD i default) (by rw [bH,bM hi];exact gy _)
    have hdiv:=DN hvi
    have hmod:=DK hvi
    have hrow:=hrt (L.getD i default).1.toNat (by have:=hvi.2.1;have:=hvi.1;omega)
    rw [show (((L.getD i default).1.toNat:Nat):Int)=(L.getD i default).1 by have:=hvi.1;omega] at hrow
    have hrj:=hri.begin (R:=LT.getD (L.getD i default).1.toNat []) hi
    generalize hve:L.getD i default=v at hrow hrj hvi hvg hdiv hmod
    generalize hR:LT.getD v.1.toNat []=R at hrow hrj
    have hrl:R.length<=al.length:=by rw [hrow];exact List.length_filter_le _ _
    have hcv:=uQ hvi
    rw [hN] at hcv
    obtain ⟨g1,g2,g3,g4⟩:=hvi
    refine eH (zA @hve (zA @hdiv (zA @hmod @hR))) ⟨?_⟩
    refine aI [1,2,4,5,6,8,9,11,12,13,14] (fun s:Nat×List Bool×List Nd=>s.1<=R.length/\RJ fin al w i v R s.1 s.2.2/\GB fin.length w s.2.2 s.2.1/\L.length<=s.2.2.length)
     (fun s=>⟨[(1,.sl w.length (HL.ints w)),(2,.ptr [.sl fin.length (HL.bools fin),.sl al.length (recs aC al)] 0),(4,.pref 0 [] 0),(5,.int .i64 ((w.length:Int)+1)),(6,.sl fin.length (bF LT)),(8,.ref 1 [] 1 0 N),(9,.ref 2 [] 1 0 s.2.2.length),(11,.int .i64 i),(12,.int .i64 v.1),(13,.int .i64 v.2),(14,.int .i64 s.1)],[(0,.optr [.nils,.nils,.nils]),(1,.osl 1 N (HL.bools s.2.1)),(2,.osl 1 s.2.2.length (vZ w s.2.2))],3⟩)
     (fun s=>R.length - s.1) (0,gb,L) ⟨by simp,hrj,hg,by simp⟩ rfl ?_
    clear hrj hg hgl
    generalize hL0:L.length=l0 at hcard hi hil
    rintro ⟨k,gb,L⟩ ⟨hkk,hrj,hg,hlm⟩
    simp only at hkk hrj hg hlm ⊢
    have hgl:=hg.len
    rw [hN] at hgl
    have hcard':=kw hrj.ri.nd fun x hx=>(hrj.ri.good x hx).2
    rw [hN] at hcard'
    have hat:=hrj.at_
    have hilt:=hrj.lt
    by_cases hkl:k<R.length
    ·have ham:R.getD k default∈al:=by
      have:=fJ hkl
      rw [hrow] at this ⊢
      exact (zl042.1 this).1
     have ha:=cu hv ham
     have key:∀z:Int,Ah fin.length w ((R.getD k default).f,z)->0<=(R.getD k default).f*((w.length:Int)+1)/\0<=(R.getD k default).f*((w.length:Int)+1)+z/\(R.getD k default).f*((w.length:Int)+1)+z<N/\gb.getD ((R.getD k default).f*((w.length:Int)+1)+z).toNat false=decide (((R.getD k default).f,z)∈L):=fun z hz=>by
      have h1:=J9 hz
      have h2:=uQ hz
      have h3:=hg.at_ _ hz
      unfold cd at h2 h3
      rw [hN] at h2
      simp only at h1 h2 h3
      exact ⟨h1.1,h2.1,by omega,h3⟩
     have hmx:(R.getD k default).f*((w.length:Int)+1)<=3000000:=by
      have hz:Ah fin.length w ((R.getD k default).f,0):=⟨ha.1,ha.2.1,by simp,by simp⟩
      have:=(key 0 hz).2.2.1
      omega
     by_cases hai:(R.getD k default).i = -1
     ·have hp:kG w v (R.getD k default)=some ((R.getD k default).f,v.2):=by simp only [kG,if_pos hai]
      have hxin:Ah fin.length w ((R.getD k default).f,v.2):=⟨ha.1,ha.2.1,g3,g4⟩
      obtain ⟨k1,k2,k3,k4⟩:=key v.2 hxin
      by_cases hmem:((R.getD k default).f,v.2)∈L
      ·rw [decide_eq_true hmem] at k4
       refine eH (zA @hR (zA @k4 @Bool.not_true)) ⟨?_⟩
       exact aP [1,2,4,5,6,8,9,11,12,13,14] (k+1,gb,L) ⟨hkl,hrj.skip hkl (fun x hx=>by rw [hp] at hx;cases hx;exact hmem),hg,hlm⟩ dL rfl
      ·rw [decide_eq_false hmem] at k4
       have hll:(L++[((R.getD k default).f,v.2)]).length=L.length+1:=by simp
       have hcde:cd w.length ((R.getD k default).f,v.2)=(R.getD k default).f*((w.length:Int)+1)+v.2:=by unfold cd;simp only;try omega
       refine eH (zA @hR (zA @k4 @Bool.not_false)) ⟨?_⟩
       exact aP [1,2,4,5,6,8,9,11,12,13,14] (k+1,gb.set (cd w.length ((R.getD k default).f,v.2)).toNat true,L++[((R.getD k default).f,v.2)]) ⟨hkl,hrj.add hin hrow hkl hp hmem,hg.add hxin,by simp only [hll];omega⟩ dL (by simp only [hll,<- vX,hcde];rfl)
     ·by_cases h0:0<v.2
      ·by_cases he:w.getD (v.2 - 1).toNat 0=(R.getD k default).i
       ·have hp:kG w v (R.getD k default)=some ((R.getD k default).f,v.2 - 1):=by simp only [kG,if_neg hai];exact if_pos ⟨h0,he⟩
        have hxin:Ah fin.length w ((R.getD k default).f,v.2 - 1):=⟨ha.1,ha.2.1,by simp only;omega,by simp only;omega⟩
        obtain ⟨k1,k2,k3,k4⟩:=key (v.2 - 1) hxin
        rw [<- Int.add_sub_assoc] at k2 k3 k4
        by_cases hmem:((R.getD k default).f,v.2 - 1)∈L
        ·rw [decide_eq_true hmem] at k4
         refine eH @hR ⟨?_⟩
         refine bG ah ah (fun _ _ _=>False) ?_
         refine eH (zA @hR (zA @k4 @Bool.not_true)) ⟨?_⟩
         exact aP [1,2,4,5,6,8,9,11,12,13,14] (k+1,gb,L) ⟨hkl,hrj.skip hkl (fun x hx=>by rw [hp] at hx;cases hx;exact hmem),hg,hlm⟩ dL rfl
        ·rw [decide_eq_false hmem] at k4
         have hll:(L++[((R.getD k default).f,v.2 - 1)]).length=L.length+1:=by simp
         have hcde:cd w.length ((R.getD k default).f,v.2 - 1)=(R.getD k default).f*((w.length:Int)+1)+v.2 - 1:=by unfold cd;simp only;try omega
         refine eH @hR ⟨?_⟩
         refine bG ah ah (fun _ _ _=>False) ?_
         refine eH (zA @hR (zA @k4 @Bool.not_false)) ⟨?_⟩
         exact aP [1,2,4,5,6,8,9,11,12,13,14] (k+1,gb.set (cd w.length ((R.getD k default).f,v.2 - 1)).toNat true,L++[((R.getD k default).f,v.2 - 1)]) ⟨hkl,hrj.add hin hrow hkl hp hmem,hg.add hxin,by simp only [hll];omega⟩ dL (by simp only [hll,<- vX,hcde];rfl)
       ·have hp:kG w v (R.getD k default)=none:=by simp only [kG,if_neg hai];exact if_neg fun h=>he h.2
        refine eH @hR ⟨?_⟩
        refine bG ah ah (fun _ _ _=>False) ?_
        refine eH @hR ⟨?_⟩
        exact aP [1,2,4,5,6,8,9,11,12,13,14] (k+1,gb,L) ⟨hkl,hrj.skip hkl (fun x hx=>by rw [hp] at hx;cases hx),hg,hlm⟩ dL rfl
      ·have hp:kG w v (R.getD k default)=none:=by simp only [kG,if_neg hai];exact if_neg fun h=>h0 h.1
       refine eH @hR ⟨?_⟩
       refine bG ah ah (fun _ _ _=>False) ?_
       refine eH @hR ⟨?_⟩
       exact aP [1,2,4,5,6,8,9,11,12,13,14] (k+1,gb,L) ⟨hkl,hrj.skip hkl (fun x hx=>by rw [hp] at hx;cases hx),hg,hlm⟩ dL rfl
    ·obtain rfl:k=R.length:=by omega
     have hdn:=hrj.done hrow
     refine eH @hR ⟨?_⟩
     exact aP [1,2,4,5,6,8,9,11] (i+1,gb,L) ⟨hdn,hg,by simp only;omega⟩ dL rfl
   ·have hd:=hri.done (by omega)
    refine zF ⟨?_⟩
    refine aF ay aK (FQ fin al hv) ?_
    rintro _ rfl
    refine zG ⟨?_⟩
    refine zF ⟨?_⟩
    refine ae ?_
    exact ⟨_,_,rfl,rfl,L,gb,by rw [abt,dD,hgl];rfl,hg,hri.nd,hd⟩
theorem lK (fin:List Bool) (al:List A) (hf:fin.length<=9223372036854775807) (ha:al.length<=9223372036854775807):HT Try.prog 27 [.agg (dE fin al)] (fun r=>r=.bool (okF fin al)):=by
 refine HT.of rfl af9 (aZ rfl) ?_
 unfold c27
 simp only [aA,Nat.reduceAdd,dE,fB]
 by_cases hb:1<=fin.length/\fin.length<=2048/\al.length<=8192
 ·obtain ⟨h1,h2,h3⟩:=hb
  have hd:okF fin al=al.all (okA fin.length):=by simp [okF,h1,h2,h3]
  refine zF ⟨?_⟩
  refine aI [1,3,4] (fun k:Nat=>k<=al.length/\(al.take k).all (okA fin.length)=true)
   (fun k=>⟨[(1,.pref 0 [] 0),(3,.int .i64 fin.length),(4,.int .i64 k)],[(0,.optr [.sl fin.length (HL.bools fin),.sl al.length (recs aC al)])],1⟩)
   (fun k=>al.length - k) 0 ⟨by omega,by simp⟩ rfl ?_
  rintro k ⟨hk,hall⟩
  by_cases hkl:k<al.length
  ·have hst:=OM (n:=fin.length) hkl
   rw [hall,jf] at hst
   by_cases b0:(al.getD k default).f<0
   ·have hbad:okA fin.length (al.getD k default)=false:=by simp only [okA,decide_eq_false_iff_not];omega
    refine zF ⟨?_⟩
    refine ae ?_
    simp [bT,hd,iQ hkl hbad]
   by_cases b1:(fin.length:Int)<=(al.getD k default).f
   ·have hbad:okA fin.length (al.getD k default)=false:=by simp only [okA,decide_eq_false_iff_not];omega
    refine zF ⟨?_⟩
    refine ae ?_
    simp [bT,hd,iQ hkl hbad]
   by_cases b2:(al.getD k default).t<0
   ·have hbad:okA fin.length (al.getD k default)=false:=by simp only [okA,decide_eq_false_iff_not];omega
    refine zF ⟨?_⟩
    refine ae ?_
    simp [bT,hd,iQ hkl hbad]
   by_cases b3:(fin.length:Int)<=(al.getD k default).t
   ·have hbad:okA fin.length (al.getD k default)=false:=by simp only [okA,decide_eq_false_iff_not];omega
    refine zF ⟨?_⟩
    refine ae ?_
    simp [bT,hd,iQ hkl hbad]
   by_cases b4:(al.getD k default).i < -1
   ·have hbad:okA fin.length (al.getD k default)=false:=by simp only [okA,decide_eq_false_iff_not];omega
    refine zF ⟨?_⟩
    refine ae ?_
    simp [bT,hd,iQ hkl hbad]
   by_cases b5:63<(al.getD k default).i
   ·have hbad:okA fin.length (al.getD k default)=false:=by simp only [okA,decide_eq_false_iff_not];omega
    refine zF ⟨?_⟩
    refine ae ?_
    simp [bT,hd,iQ hkl hbad]
   by_cases b6:(al.getD k default).o < -1
   ·have hbad:okA fin.length (al.getD k default)=false:=by simp only [okA,decide_eq_false_iff_not];omega
    refine zF ⟨?_⟩
    refine ae ?_
    simp [bT,hd,iQ hkl hbad]
   by_cases b7:63<(al.getD k default).o
   ·have hbad:okA fin.length (al.getD k default)=false:=by simp only [okA,decide_eq_false_iff_not];omega
    refine zF ⟨?_⟩
    refine ae ?_
    simp [bT,hd,iQ hkl hbad]
   refine zF ⟨?_⟩
   exact aP [1,3,4] (k+1) ⟨hkl,by rw [hst];simp only [okA,decide_eq_true_eq];omega⟩ (by omega) rfl
  ·obtain rfl:k=al.length:=by omega
   rw [fK] at hall
   refine zF ⟨?_⟩
   refine ae ?_
   simp [bT,hd,hall]
 ·have hd:okF fin al=false:=by simp only [okF,decide_eq_false hb,JB]
  by_cases h1:1<=fin.length
  ·by_cases h2:fin.length<=2048
   ·have h3:¬ al.length<=8192:=fun h=>hb ⟨h1,h2,h⟩
    refine zF ⟨?_⟩
    refine ae ?_
    simp [bT,hd]
   ·refine zF ⟨?_⟩
    refine ae ?_
    simp [bT,hd]
  ·refine zF ⟨?_⟩
   refine ae ?_
   simp [bT,hd]
def Ej (fin:List Bool) (al:List A) (w:List Int) (most:Int):Prop:=okF fin al=true/\1<=most/\most<=64/\w.length<=1024
open Classical in
def Tq (fin:List Bool) (al:List A) (w:List Int) (most:Int) (r:HV):Prop:=if Ej fin al w most then apR fin al w most r else r=.tup [.osl 1 0 [],.int .i64 1]
theorem yU {fin:List Bool} {al:List A} {w:List Int} {most:Int} {r:HV} (h:¬ Ej fin al w most) (hr:r=.tup [.osl 1 0 [],.int .i64 1]):Tq fin al w most r:=by unfold Tq;rw [if_neg h];exact hr
theorem V7 (fin:List Bool) (al:List A) (w:List Int) (most:Int) (hf:fin.length<=9223372036854775807) (ha:al.length<=9223372036854775807) (hwl:w.length<=9223372036854775807):HT Try.prog 17 [.agg (dE fin al),.sl w.length (HL.ints w),.int .i64 most] (Tq fin al w most):=by
 refine HT.of rfl afr (aZ rfl) ?_
 unfold c17
 have hvd:=yH fin al hf ha
 have hst:=WE fin al w
 have hwd:=fun G=>Ky fin al w G [(0,0)]
 simp only [aA,Nat.reduceAdd]
 simp only [dE,fB] at hvd hst ⊢
 refine zF ⟨?_⟩
 refine aF ay aK (hvd) ?_
 rintro _ rfl
 by_cases hv:okF fin al=true
 ·rw [hv]
  refine zG ⟨?_⟩
  by_cases m1:most<1
  ·refine zF ⟨?_⟩
   refine ae ?_
   exact yU (fun h=>by have:=h.2.1;omega) rfl
  by_cases m2:64<most
  ·refine zF ⟨?_⟩
   refine ae ?_
   exact yU (fun h=>by have:=h.2.2.1;omega) rfl
  by_cases m3:(1024:Int)<(w.length:Int)
  ·refine zF ⟨?_⟩
   refine ae ?_
   exact yU (fun h=>by have:=h.2.2.2;omega) rfl
  have hok:Ej fin al w most:=⟨hv,by omega,by omega,by omega⟩
  have hw:w.length<=1024:=by omega
  have hfl:=dD (·.f) fin.length al
  refine zF ⟨?_⟩
  refine aF ay aK (hst hv hw) ?_
  rintro _ ⟨G,rfl,hGn,hG⟩
  simp only [ab6]
  refine zG ⟨?_⟩
  refine zQ ⟨?_⟩
  have hK:Tq fin al w most=apR fin al w most:=by funext r;unfold Tq;rw [if_pos hok]
  rw [hK]
  have hin:∀a∈al,0<=a.f/\a.f<fin.length:=fun a ha=>by have:=cu hv ha;omega
  have hGl:G.length<=4194304:=by
   have h1:=kw hGn fun x hx=>kX hin ((hG x).1 hx)
   obtain ⟨h2,h3,h4⟩:=bY hv
   have:fin.length*(w.length+1)<=2048*1025:=tK h3 (by omega)
   omega
  refine az 352 [2,3,4,8] ⟨[(2,.int .i64 most),(3,.pref 0 [] 0),(4,.pref 1 [] 0),(8,.ptr (stripL [.sl w.length (HL.ints w),.osl 1 (aG (·.f) fin.length al).length (dw (aG (·.f) fin.length al)),.omap ⟨.ints 2,none⟩ (G.map pk) (qC G.length)]) 0)],[(0,.optr (dE fin al)),(1,.optr [.sl w.length (HL.ints w)])],2⟩ rfl ?_
  rw [UJ]
  have h0:=adh hG
  by_cases hg:((0,0):Nd)∈G
  ·have hd:decide (((0,0):Nd)∈G)=true:=decide_eq_true hg
   rw [if_pos hg] at h0
   have hgd:∀x∈[((0,0):Nd)],FS.Good fin al w x:=fun x hx=>by
    simp only [zl009] at hx;subst hx;exact (hG _).1 hg
   have hwd':HTM Try.prog 55 [.ptr [.sl w.length (HL.ints w),.sl (aG (·.f) fin.length al).length (bF (aG (·.f) fin.length al)),.rmap ⟨.ints 2,none⟩ (G.map pk) (qC G.length)] 0,.osl 2 1 [.int .i64 0,.int .i64 0]] (fun r=>∃L,r=.osl 2 L.length (Bq L)/\(∀x,x∈L <-> Cl fin al w (·∈[((0,0):Nd)]) x)/\L.length<=[((0,0):Nd)].length+G.length):=hwd G hv hw hG hGl hgd (by simp)
   simp only [runT]
   refine eH @hd ⟨?_⟩
   refine CE [] [] ay KT zT7 rfl (by decide) (hwd') ?_
   rintro _ outs ⟨L,rfl,hL,hLl⟩ hol
   obtain rfl:=iU hol
   refine ⟨_,_,_,_,_,zT,(by decide),MN,?_⟩
   refine zF ⟨?_⟩
   refine jX (Weak.norm2 [2,3,4,8,9,10,11] _) ?_
   exact G5 fin al w G most [([],L)] (aG (·.f) fin.length al) rfl hv hw (by omega) (by omega) hG hGl (by rw [h0];rfl) (fun q hq=>by
    simp only [zl009] at hq
    subst hq
    exact row0 hG hg hL (by simpa using hLl))
  ·have hd:decide (((0,0):Nd)∈G)=false:=decide_eq_false hg
   rw [if_neg hg] at h0
   simp only [runT]
   refine eH @hd ⟨?_⟩
   refine jX (Weak.norm2 [2,3,4,8,9,10,11] _) ?_
   exact G5 fin al w G most [] (aG (·.f) fin.length al) rfl hv hw (by omega) (by omega) hG hGl (by rw [h0];rfl) (by simp)
 ·rw [show okF fin al=false by simpa using hv]
  refine zG ⟨?_⟩
  refine zF ⟨?_⟩
  refine ae ?_
  exact yU (fun h=>hv h.1) rfl
theorem Rj (w:List Int) (LF:List (List A)) (gb:List Bool) (N n:Nat) (hL:LF.length=n) (hN:gb.length=N):stripL [.sl w.length (HL.ints w),.osl 1 n (dw LF),.osl 1 N (HL.bools gb)]=[.sl w.length (HL.ints w),.sl LF.length (bF LF),.sl N (HL.bools gb)]:=by
 subst hL hN
 simp [stripL,HV.strip,HL.ints_strip,HL.bools_strip,ku]
theorem Ub (fin:List Bool) (al:List A) (w:List Int) (most:Int) (hf:fin.length<=9223372036854775807) (ha:al.length<=9223372036854775807) (hwl:w.length<=9223372036854775807):HT Try.prog 18 [.agg (dE fin al),.sl w.length (HL.ints w),.int .i64 most] (Tq fin al w most):=by
 refine HT.of rfl aga (aZ rfl) ?_
 unfold c18
 have hvd:=lK fin al hf ha
 have hst:=Vq fin al w
 have hwd:=fun G gb=>NT fin al w G [(0,0)] gb
 simp only [aA,Nat.reduceAdd]
 simp only [dE,fB] at hvd hst ⊢
 refine zF ⟨?_⟩
 refine aF ay aK (hvd) ?_
 rintro _ rfl
 by_cases hv:okF fin al=true
 ·rw [hv]
  refine zG ⟨?_⟩
  by_cases m1:most<1
  ·refine zF ⟨?_⟩
   refine ae ?_
   exact yU (fun h=>by have:=h.2.1;omega) rfl
  by_cases m2:64<most
  ·refine zF ⟨?_⟩
   refine ae ?_
   exact yU (fun h=>by have:=h.2.2.1;omega) rfl
  by_cases m3:(1024:Int)<(w.length:Int)
  ·refine zF ⟨?_⟩
   refine ae ?_
   exact yU (fun h=>by have:=h.2.2.2;omega) rfl
  have hok:Ej fin al w most:=⟨hv,by omega,by omega,by omega⟩
  have hw:w.length<=1024:=by omega
  have hfl:=dD (·.f) fin.length al
  refine zF ⟨?_⟩
  refine aF ay aK (hst hv hw) ?_
  rintro _ ⟨G,gb,rfl,hb,hGn,hG⟩
  simp only [abt]
  refine zG ⟨?_⟩
  refine zQ ⟨?_⟩
  have hK:Tq fin al w most=apR fin al w most:=by funext r;unfold Tq;rw [if_pos hok]
  rw [hK]
  obtain ⟨N,hN⟩:∃N,fin.length*(w.length+1)=N:=⟨_,rfl⟩
  have hgl:=hb.len
  rw [hN] at hgl
  have hok2:=bY hv
  have hNb:=qm (n:=fin.length) (w:=w) hok2.2.1 hw
  rw [hN] at hNb
  have hin:∀a∈al,0<=a.f/\a.f<fin.length:=fun a ha=>by have:=cu hv ha;omega
  have hGl:=kw hGn fun x hx=>kX hin ((hG x).1 hx)
  rw [hN] at hGl
  have h00:Ah fin.length w (0,0):=⟨by simp,by simp only;omega,by simp,by simp⟩
  have hg0:=hb.at_ _ h00
  rw [show (cd w.length (0,0)).toNat=0 by simp [cd]] at hg0
  have hNp:0<N:=by
   have:=(uQ h00).2
   rw [hN] at this;omega
  have hwd:=fun hg hl=>hwd G gb hv hw hG hb hg hl
  have hloop:=fun lv=>MO fin al w G gb most lv _ N rfl hN hv hw (by omega) (by omega) hG hGn hb
  simp only [Ip,hgl] at hwd
  rw [hgl]
  generalize hLF:aG (·.f) fin.length al=LF at hfl hwd hloop ⊢
  refine az 352 [1,2,3,8] ⟨[(1,.sl w.length (HL.ints w)),(2,.int .i64 most),(3,.pref 0 [] 0),(8,.ptr (stripL [.sl w.length (HL.ints w),.osl 1 LF.length (dw LF),.osl 1 N (HL.bools gb)]) 0)],[(0,.optr [.sl fin.length (HL.bools fin),.sl al.length (recs aC al)])],1⟩ rfl ?_
  rw [Rj w LF gb N LF.length rfl hgl]
  refine az 0 [1,2,3,8] ⟨[(1,.sl w.length (HL.ints w)),(2,.int .i64 most),(3,.ptr (stripL [.sl fin.length (HL.bools fin),.sl al.length (recs aC al)]) 0),(8,.ptr [.sl w.length (HL.ints w),.sl LF.length (bF LF),.sl N (HL.bools gb)] 0)],[],0⟩ rfl ?_
  rw [gu]
  have h0:=adh hG
  by_cases hg:((0,0):Nd)∈G
  ·rw [decide_eq_true hg] at hg0
   rw [if_pos hg] at h0
   have hgd:∀x∈[((0,0):Nd)],FS.Good fin al w x:=fun x hx=>by
    simp only [zl009] at hx;subst hx;exact (hG _).1 hg
   have hwd':=hwd hgd (by simp)
   rw [show vZ w [((0,0):Nd)]=[.int .i64 0] by simp [vZ,HL.ints,cd]] at hwd'
   refine eH @hg0 ⟨?_⟩
   refine aF ay aK (hwd') ?_
   rintro _ ⟨L,rfl,hL,hLn⟩
   refine ⟨(by simp only [aJ,G7,HV.refFree,dm,HV.noRd,HL.ints_noRd,HL.bools_noRd,dR,mZ,lX,l9,kE,Bool.and_true,jf,Bool.and_self,mQ,beq_self_eq_true,List.cons_append,List.nil_append]),_,_,_,_,_,zT,(by decide),lH,?_⟩
   refine zF ⟨?_⟩
   have hLl:L.length<=G.length:=dW hLn fun x hx=>(hG x).2 (ww hgd ((hL x).1 hx))
   refine jX (Weak.norm2 [1,2,3,8,9,10,11,12] _) ?_
   exact hloop [([],L)] (by rw [h0];rfl) (fun q hq=>by
    simp only [zl009] at hq
    subst hq
    exact row0 hG hg hL (by omega))
  ·rw [decide_eq_false hg] at hg0
   rw [if_neg hg] at h0
   refine eH @hg0 ⟨?_⟩
   refine jX (Weak.norm2 [1,2,3,8,9,10,11,12] _) ?_
   exact hloop [] (by rw [h0];rfl) (by simp)
 ·rw [show okF fin al=false by simpa using hv]
  refine zG ⟨?_⟩
  refine zF ⟨?_⟩
  refine ae ?_
  exact yU (fun h=>hv h.1) rfl
end Go.Proofs.Ytlbdmpjnmfmnfaa
end
