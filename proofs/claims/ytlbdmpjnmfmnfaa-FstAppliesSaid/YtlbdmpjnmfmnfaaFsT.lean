import Derived.Test.YtlbdmpjnmfmnfaaFsR
set_option linter.unusedSimpArgs false
set_option linter.unusedVariables false
namespace Go.Proofs.Ytlbdmpjnmfmnfaa
open Go.RowKit Go.HL Go.FS
theorem E8 (ll:List (List A)) {n:Nat} (h:ll.length=n):stripL (win (fA ll) 0 (n*1))=dL ll:=by
 rw [<- jv,win,if_pos ⟨rfl,by rw [oh];omega⟩]
def UM (w:List Int) (ll:List (List A)) (gb:List Bool):HV:=.agg [.sl w.length (HL.ints w),.osl 1 ll.length (fA ll),.osl 1 gb.length (HL.bools gb)]
set_option maxHeartbeats 8000000 in
theorem Ik (fin:List Bool) (al:List A) (w:List Int) (hv:okF fin al=true) (hw:w.length<=1024):HT Try.prog 59 [.agg (fK fin al),.sl w.length (HL.ints w)] (fun r=>∃G gb,r=UM w (bn (·.f) fin.length al) gb/\GB fin.length w G gb/\G.Nodup/\∀x,x∈G <-> FS.Good fin al w x):=by
 obtain ⟨h1,h2,h3⟩:=iF hv
 have hin:∀a∈al,0<=a.f/\a.f<fin.length:=fun a ha=>by have:=fE hv ha;omega
 have hgb:=kN (n:=fin.length) (w:=w) h2 hw
 refine HT.ofC rfl abD [4] rfl (Nat.le_of_ble_eq_true rfl) ?_
 unfold c59
 simp only [aX,Nat.reduceAdd,fK,gX]
 repeat (first|refine ah ?_|refine aS ?_|refine af ?_|refine bf ?_|refine aB ?_|refine au ?_|refine ae ?_|refine aA ?_|refine aF ?_|refine di ?_|refine bU dN ?_|refine lH dN (by rfl) (by omega) aI aI ?_)
 refine bF 0 [1,2,4,5,6,7] ⟨[(1,.sl w.length (HL.ints w)),(2,.ptr (stripL [.sl fin.length (HL.bools fin),.sl al.length (recs aC al)]) 0),(4,.pref 0 [] 0),(5,.int .i64 ((w.length:Int)+1)),(6,.ref 1 [] 1 0 fin.length),(7,.int .i64 0)],[(0,.optr [.nils,.nils,.nils]),(1,.osl 1 fin.length (fA (List.replicate fin.length [])))],2⟩ rfl ?_
 rw [jy,<- oQ (·.t)]
 refine bQ [1,2,4,5,6,7] (fun k:Nat=>k<=al.length)
  (fun k=>⟨[(1,.sl w.length (HL.ints w)),(2,.ptr [.sl fin.length (HL.bools fin),.sl al.length (recs aC al)] 0),(4,.pref 0 [] 0),(5,.int .i64 ((w.length:Int)+1)),(6,.ref 1 [] 1 0 fin.length),(7,.int .i64 k)],[(0,.optr [.nils,.nils,.nils]),(1,.osl 1 fin.length (fA (bn (·.t) fin.length (al.take k))))],2⟩)
  (fun k=>al.length - k) 0 (by omega) rfl ?_
 intro k hk
 by_cases hkl:k<al.length
 ·have ha:=fE hv (gU hkl)
  have hlen:=fJ (·.t) fin.length (al.take k)
  have hrow:((bn (·.t) fin.length (al.take k)).getD (al.getD k default).t.toNat []).length<=8192:=Nat.le_trans oz (by simp;omega)
  have hst:=nD (p:=(·.t)) (n:=fin.length) (l:=al.take k) (a:=al.getD k default) (j:=(al.getD k default).t.toNat) (by omega)
  rw [<- dE hkl] at hst
  have hro:=rq (bn (·.t) fin.length (al.take k)) (al.getD k default).t.toNat ((bn (·.t) fin.length (al.take k)).getD (al.getD k default).t.toNat []++[al.getD k default]) .dead (n:=((bn (·.t) fin.length (al.take k)).getD (al.getD k default).t.toNat []).length+1) (by simp)
  rw [hst] at hro
  repeat (first|refine ah ?_|refine dD ?_|refine af ?_|refine ay ?_|refine aB ?_|refine ak ?_|refine au ?_|refine ae ?_|refine aA ?_|refine aH ?_|refine aY ?_)
  refine iU [2,7] [6] bu bu (fun _ _ _=>False) (by simp [aV,HV.deep,bK,jD,jP]) (by simp [aV,HV.deep,bK]) ?_
  repeat (first|refine ah ?_|refine aJ ?_|refine cZ ?_|refine dA (by rfl) aG (by (try simp (disch:=omega) only [go_sem,hro]);try rfl) ?_|refine dK (by rfl) aW (by (try simp (disch:=omega) only [go_sem,reduceIte,Nat.reduceEqDiff,Nat.reduceAdd,Nat.reduceMul,hro]);try rfl) aG (by (try simp (disch:=omega) only [go_sem,hro]);try rfl) aQ ?_|refine af ?_|refine eU (by rfl) (by rfl) (by (try simp (disch:=omega) only [go_sem,Int.reduceAdd,Int.reduceSub,Int.reduceMul,hro]);try rfl) ?_|refine ae ?_|refine dH ?_|refine aY ?_|refine gB (by rfl) aG (by (try simp (disch:=omega) only [go_sem,reduceIte,Nat.reduceEqDiff,Nat.reduceAdd,Nat.reduceMul,hro]);try rfl) ?_|refine kF (by rfl) aQ aI iW kG (by rfl) kX (by rfl) kY (by (try simp (disch:=omega) only [go_sem,reduceIte,Nat.reduceEqDiff,Nat.reduceAdd,Nat.reduceMul,hro]);try rfl) aG (by (try simp (disch:=omega) only [go_sem,hro]);try rfl) aI jk ?_|refine bP ?_|refine iM dN (by rfl) aQ l9 (by (try simp (disch:=omega) only [go_sem,reduceIte,Nat.reduceEqDiff,Nat.reduceAdd,Nat.reduceMul,hro]);try omega) aW (by (try simp (disch:=omega) only [go_sem,reduceIte,Nat.reduceEqDiff,Nat.reduceAdd,Nat.reduceMul,hro]);try rfl) dN (by omega) fP aG (by (try simp (disch:=omega) only [go_sem,reduceIte,Nat.reduceEqDiff,Nat.reduceAdd,Nat.reduceMul,hro]);try rfl) aI ?_)
  exact bZ [1,2,4,5,6,7] (k+1) hkl (by omega) rfl
 ·obtain rfl:k=al.length:=by omega
  rw [List.take_length]
  obtain ⟨N,hN⟩:∃N,fin.length*(w.length+1)=N:=⟨_,rfl⟩
  have hNi:(((w.length:Int)+1)*(fin.length:Int))=(N:Int):=by rw [<- hN];push_cast;exact Int.mul_comm _ _
  have hG0:=GB.start hN
  have htl:=fJ (·.t) fin.length al
  have hrt:∀i:Nat,i<fin.length->(bn (·.t) fin.length al).getD i []=al.filter fun a=>a.t==(i:Int):=fun i hi=>jh _ _ hi
  generalize hLT:bn (·.t) fin.length al=LT at htl hrt
  rw [hN] at hgb
  repeat (first|refine ah ?_|refine dA (by rfl) aG (by (try simp (disch:=omega) only [go_sem,hNi]);try rfl) ?_|refine af ?_|refine ay ?_|refine aB ?_|refine bD (by rfl) ?_|refine ax ?_|refine au ?_|refine ae ?_|refine aA ?_|refine aZ ?_|refine pg (by rfl) (by rfl) (by (try simp (disch:=omega) only [go_sem,Int.reduceAdd,Int.reduceSub,Int.reduceMul,hNi]);try rfl) ?_|refine aY ?_|refine lH dN (by rfl) (by omega) aI aI ?_)
  refine bF 1 [1,2,4,5,6,8,9,10] ⟨[(1,.sl w.length (HL.ints w)),(2,.ptr [.sl fin.length (HL.bools fin),.sl al.length (recs aC al)] 0),(4,.pref 0 [] 0),(5,.int .i64 ((w.length:Int)+1)),(6,.sl fin.length (dL LT)),(8,.ref 1 [] 1 0 N),(9,.ref 2 [] 1 0 0),(10,.int .i64 0)],[(0,.optr [.nils,.nils,.nils]),(1,.osl 1 N (HL.bools (List.replicate N false))),(2,.osl 1 0 [])],3⟩ (by rw [<- E8 LT htl];rfl) ?_
  refine bQ [1,2,4,5,6,8,9,10] (fun s:Nat×List Bool×List Nd=>s.1<=fin.length/\s.2.2=zY fin w s.1/\GB fin.length w s.2.2 s.2.1)
   (fun s=>⟨[(1,.sl w.length (HL.ints w)),(2,.ptr [.sl fin.length (HL.bools fin),.sl al.length (recs aC al)] 0),(4,.pref 0 [] 0),(5,.int .i64 ((w.length:Int)+1)),(6,.sl fin.length (dL LT)),(8,.ref 1 [] 1 0 N),(9,.ref 2 [] 1 0 s.2.2.length),(10,.int .i64 s.1)],[(0,.optr [.nils,.nils,.nils]),(1,.osl 1 N (HL.bools s.2.1)),(2,.osl 1 s.2.2.length (oq w s.2.2))],3⟩)
   (fun s=>fin.length - s.1) (0,List.replicate N false,[]) ⟨by simp,rfl,hG0⟩ rfl ?_
  rintro ⟨k,gb,L⟩ ⟨hk,hL,hg⟩
  simp only at hk hL hg ⊢
  have hgl:=hg.len
  rw [hN] at hgl
  have hLl:=JL (fin:=fin) (w:=w) k
  rw [<- hL] at hLl
  by_cases hkl:k<fin.length
  ·have hxin:rP fin.length w ((k:Int),(w.length:Int)):=⟨by simp only;omega,by simp only;omega,by simp only;omega,by simp only;omega⟩
   have h4:=zu hxin
   have h5:=ng hxin
   rw [hN] at h5
   unfold cd at h5
   simp only at h4 h5
   have h6:0<=(k:Int)*((w.length:Int)+1)/\(k:Int)*((w.length:Int)+1)+(w.length:Int)<=3000000:=⟨h4.1,by
    generalize (k:Int)*((w.length:Int)+1)=p at h5
    omega⟩
   cases hb:fin.getD k false with
   | true =>
    have hst:=Lp (w:=w) hb
    rw [<- hL] at hst
    have hll:(L++[((k:Int),(w.length:Int))]).length=L.length+1:=by simp
    repeat (first|refine ah ?_|refine aJ ?_|refine cZ ?_|refine dA (by rfl) aG (by (try simp (disch:=omega) only [go_sem,hb]);try rfl) ?_|refine af ?_|refine ay ?_|refine eU (by rfl) (by rfl) (by (try simp (disch:=omega) only [go_sem,Int.reduceAdd,Int.reduceSub,Int.reduceMul,hb]);try rfl) ?_|refine aB ?_|refine ak ?_|refine au ?_|refine ae ?_|refine aA ?_|refine dH ?_|refine aH ?_|refine pg (by rfl) (by rfl) (by (try simp (disch:=omega) only [go_sem,Int.reduceAdd,Int.reduceSub,Int.reduceMul,hb]);try rfl) ?_|refine aY ?_|refine kL (by rfl) aQ aI fH (by rfl) (by decide) aW aI aG (by (try simp (disch:=omega) only [go_sem,hb]);try rfl) aI ?_|refine bP ?_|refine iM dN (by rfl) aQ l9 (by (try simp (disch:=omega) only [go_sem,reduceIte,Nat.reduceEqDiff,Nat.reduceAdd,Nat.reduceMul,hb]);try omega) aW (by (try simp (disch:=omega) only [go_sem,reduceIte,Nat.reduceEqDiff,Nat.reduceAdd,Nat.reduceMul,hb]);try rfl) dN (by omega) fP aG (by (try simp (disch:=omega) only [go_sem,reduceIte,Nat.reduceEqDiff,Nat.reduceAdd,Nat.reduceMul,hb]);try rfl) aI ?_)
    exact bZ [1,2,4,5,6,8,9,10] (k+1,gb.set (cd w.length ((k:Int),(w.length:Int))).toNat true,L++[((k:Int),(w.length:Int))]) ⟨hkl,hst.symm,hg.add hxin⟩ dW (by simp only [hll,<- nK];rfl)
   | false =>
    have hst:=O8 (w:=w) hb
    rw [<- hL] at hst
    repeat (first|refine ah ?_|refine aJ ?_|refine dA (by rfl) aG (by (try simp (disch:=omega) only [go_sem,hb]);try rfl) ?_|refine af ?_|refine ay ?_|refine eU (by rfl) (by rfl) (by (try simp (disch:=omega) only [go_sem,Int.reduceAdd,Int.reduceSub,Int.reduceMul,hb]);try rfl) ?_|refine aB ?_|refine ak ?_|refine ax ?_|refine au ?_|refine ae ?_|refine aA ?_|refine dH ?_|refine aH ?_|refine aY ?_)
    exact bZ [1,2,4,5,6,8,9,10] (k+1,gb,L) ⟨hkl,hst.symm,hg⟩ dW rfl
  ·obtain rfl:k=fin.length:=by omega
   have hri:=RI.start (al:=al) hL
   repeat (first|refine ah ?_|refine dD ?_|refine af ?_|refine ay ?_|refine aB ?_|refine bD (by rfl) ?_|refine ax ?_|refine au ?_|refine ae ?_|refine aA ?_|refine aY ?_)
   refine bQ [1,2,4,5,6,8,9,11] (fun s:Nat×List Bool×List Nd=>RI fin al w s.1 s.2.2/\GB fin.length w s.2.2 s.2.1/\s.1<=s.2.2.length)
    (fun s=>⟨[(1,.sl w.length (HL.ints w)),(2,.ptr [.sl fin.length (HL.bools fin),.sl al.length (recs aC al)] 0),(4,.pref 0 [] 0),(5,.int .i64 ((w.length:Int)+1)),(6,.sl fin.length (dL LT)),(8,.ref 1 [] 1 0 N),(9,.ref 2 [] 1 0 s.2.2.length),(11,.int .i64 s.1)],[(0,.optr [.nils,.nils,.nils]),(1,.osl 1 N (HL.bools s.2.1)),(2,.osl 1 s.2.2.length (oq w s.2.2))],3⟩)
    (fun s=>(N - s.2.2.length)+(s.2.2.length - s.1)) (0,gb,L) ⟨hri,hg,by simp⟩ rfl ?_
   clear hL hLl hg hgl hri gb L
   rintro ⟨i,gb,L⟩ ⟨hri,hg,hil⟩
   simp only at hri hg hil ⊢
   have hgl:=hg.len
   rw [hN] at hgl
   have hcard:=iP hri.nd fun x hx=>(hri.good x hx).2
   rw [hN] at hcard
   by_cases hi:i<L.length
   ·obtain ⟨hvg,hvi⟩:=hri.good (L.getD i default) (by rw [List.getD_eq_getElem?_getD,List.getElem?_eq_getElem hi];exact List.getElem_mem _)
    have hdiv:=uZ hvi
    have hmod:=uX hvi
    have hrow:=hrt (L.getD i default).1.toNat (by have:=hvi.2.1;have:=hvi.1;omega)
    rw [show (((L.getD i default).1.toNat:Nat):Int)=(L.getD i default).1 by have:=hvi.1;omega] at hrow
    have hrj:=hri.begin (R:=LT.getD (L.getD i default).1.toNat []) hi
    generalize hve:L.getD i default=v at hrow hrj hvi hvg hdiv hmod
    generalize hR:LT.getD v.1.toNat []=R at hrow hrj
    have hrl:R.length<=al.length:=by rw [hrow];exact List.length_filter_le _ _
    have hcv:=ng hvi
    rw [hN] at hcv
    obtain ⟨g1,g2,g3,g4⟩:=hvi
    repeat (first|refine ah ?_|refine cZ ?_|refine dK (by rfl) aW (by (try simp (disch:=omega) only [go_sem,reduceIte,Nat.reduceEqDiff,Nat.reduceAdd,Nat.reduceMul,hve,hdiv,hmod,hR]);try rfl) aG (by (try simp (disch:=omega) only [go_sem,hve,hdiv,hmod,hR]);try rfl) aQ ?_|refine af ?_|refine ay ?_|refine dO (by rfl) ?_|refine ak ?_|refine au ?_|refine ae ?_|refine aA ?_|refine aH ?_|refine sZ (by rfl) (by rfl) (by omega) (by (try simp (disch:=omega) only [go_sem,Int.reduceAdd,Int.reduceSub,Int.reduceMul,hve,hdiv,hmod,hR]);try rfl) ?_|refine mG (by rfl) (by rfl) (by omega) (by (try simp (disch:=omega) only [go_sem,Int.reduceAdd,Int.reduceSub,Int.reduceMul,hve,hdiv,hmod,hR]);try rfl) ?_)
    refine bQ [1,2,4,5,6,8,9,11,12,13,14] (fun s:Nat×List Bool×List Nd=>s.1<=R.length/\RJ fin al w i v R s.1 s.2.2/\GB fin.length w s.2.2 s.2.1/\L.length<=s.2.2.length)
     (fun s=>⟨[(1,.sl w.length (HL.ints w)),(2,.ptr [.sl fin.length (HL.bools fin),.sl al.length (recs aC al)] 0),(4,.pref 0 [] 0),(5,.int .i64 ((w.length:Int)+1)),(6,.sl fin.length (dL LT)),(8,.ref 1 [] 1 0 N),(9,.ref 2 [] 1 0 s.2.2.length),(11,.int .i64 i),(12,.int .i64 v.1),(13,.int .i64 v.2),(14,.int .i64 s.1)],[(0,.optr [.nils,.nils,.nils]),(1,.osl 1 N (HL.bools s.2.1)),(2,.osl 1 s.2.2.length (oq w s.2.2))],3⟩)
     (fun s=>R.length - s.1) (0,gb,L) ⟨by simp,hrj,hg,by simp⟩ rfl ?_
    clear hrj hg hgl
    generalize hL0:L.length=l0 at hcard hi hil
    rintro ⟨k,gb,L⟩ ⟨hkk,hrj,hg,hlm⟩
    simp only at hkk hrj hg hlm ⊢
    have hgl:=hg.len
    rw [hN] at hgl
    have hcard':=iP hrj.ri.nd fun x hx=>(hrj.ri.good x hx).2
    rw [hN] at hcard'
    have hat:=hrj.at_
    have hilt:=hrj.lt
    by_cases hkl:k<R.length
    ·have ham:R.getD k default∈al:=by
      have:=gU hkl
      rw [hrow] at this ⊢
      exact (List.mem_filter.1 this).1
     have ha:=fE hv ham
     have key:∀z:Int,rP fin.length w ((R.getD k default).f,z)->0<=(R.getD k default).f*((w.length:Int)+1)/\0<=(R.getD k default).f*((w.length:Int)+1)+z/\(R.getD k default).f*((w.length:Int)+1)+z<N/\gb.getD ((R.getD k default).f*((w.length:Int)+1)+z).toNat false=decide (((R.getD k default).f,z)∈L):=fun z hz=>by
      have h1:=zu hz
      have h2:=ng hz
      have h3:=hg.at_ _ hz
      unfold cd at h2 h3
      rw [hN] at h2
      simp only at h1 h2 h3
      exact ⟨h1.1,h2.1,by omega,h3⟩
     have hmx:(R.getD k default).f*((w.length:Int)+1)<=3000000:=by
      have hz:rP fin.length w ((R.getD k default).f,0):=⟨ha.1,ha.2.1,by simp,by simp⟩
      have:=(key 0 hz).2.2.1
      omega
     by_cases hai:(R.getD k default).i = -1
     ·have hp:iR w v (R.getD k default)=some ((R.getD k default).f,v.2):=by simp only [iR,if_pos hai]
      have hxin:rP fin.length w ((R.getD k default).f,v.2):=⟨ha.1,ha.2.1,g3,g4⟩
      obtain ⟨k1,k2,k3,k4⟩:=key v.2 hxin
      by_cases hmem:((R.getD k default).f,v.2)∈L
      ·rw [decide_eq_true hmem] at k4
       repeat (first|refine ah ?_|refine aO ?_|refine aJ ?_|refine cZ ?_|refine dA (by rfl) aG (by (try simp (disch:=omega) only [go_sem,hR,k4,Bool.not_true]);try rfl) ?_|refine dK (by rfl) aW (by (try simp (disch:=omega) only [go_sem,reduceIte,Nat.reduceEqDiff,Nat.reduceAdd,Nat.reduceMul,hR,k4,Bool.not_true]);try rfl) aG (by (try simp (disch:=omega) only [go_sem,hR,k4,Bool.not_true]);try rfl) aQ ?_|refine af ?_|refine ay ?_|refine bC ?_|refine aK ?_|refine eU (by rfl) (by rfl) (by (try simp (disch:=omega) only [go_sem,Int.reduceAdd,Int.reduceSub,Int.reduceMul,hR,k4,Bool.not_true]);try rfl) ?_|refine aB ?_|refine ak ?_|refine ax ?_|refine au ?_|refine ae ?_|refine aA ?_|refine dH ?_|refine aH ?_|refine pg (by rfl) (by rfl) (by (try simp (disch:=omega) only [go_sem,Int.reduceAdd,Int.reduceSub,Int.reduceMul,hR,k4,Bool.not_true]);try rfl) ?_|refine dh ?_|refine gI (by rfl) ?_|refine aF ?_|refine gB (by rfl) aG (by (try simp (disch:=omega) only [go_sem,reduceIte,Nat.reduceEqDiff,Nat.reduceAdd,Nat.reduceMul,hR,k4,Bool.not_true]);try rfl) ?_|refine kL (by rfl) aQ aI fH (by rfl) (by decide) aW aI aG (by (try simp (disch:=omega) only [go_sem,hR,k4,Bool.not_true]);try rfl) aI ?_|refine bU dN ?_)
       exact bZ [1,2,4,5,6,8,9,11,12,13,14] (k+1,gb,L) ⟨hkl,hrj.skip hkl (fun x hx=>by rw [hp] at hx;cases hx;exact hmem),hg,hlm⟩ dW rfl
      ·rw [decide_eq_false hmem] at k4
       have hll:(L++[((R.getD k default).f,v.2)]).length=L.length+1:=by simp
       have hcde:cd w.length ((R.getD k default).f,v.2)=(R.getD k default).f*((w.length:Int)+1)+v.2:=by unfold cd;simp only;try omega
       repeat (first|refine ah ?_|refine aO ?_|refine aJ ?_|refine cZ ?_|refine dA (by rfl) aG (by (try simp (disch:=omega) only [go_sem,hR,k4,Bool.not_false]);try rfl) ?_|refine dK (by rfl) aW (by (try simp (disch:=omega) only [go_sem,reduceIte,Nat.reduceEqDiff,Nat.reduceAdd,Nat.reduceMul,hR,k4,Bool.not_false]);try rfl) aG (by (try simp (disch:=omega) only [go_sem,hR,k4,Bool.not_false]);try rfl) aQ ?_|refine af ?_|refine ay ?_|refine bC ?_|refine aK ?_|refine eU (by rfl) (by rfl) (by (try simp (disch:=omega) only [go_sem,Int.reduceAdd,Int.reduceSub,Int.reduceMul,hR,k4,Bool.not_false]);try rfl) ?_|refine aB ?_|refine ak ?_|refine au ?_|refine ae ?_|refine aA ?_|refine dH ?_|refine aH ?_|refine pg (by rfl) (by rfl) (by (try simp (disch:=omega) only [go_sem,Int.reduceAdd,Int.reduceSub,Int.reduceMul,hR,k4,Bool.not_false]);try rfl) ?_|refine dh ?_|refine iG (by rfl) ?_|refine aF ?_|refine gB (by rfl) aG (by (try simp (disch:=omega) only [go_sem,reduceIte,Nat.reduceEqDiff,Nat.reduceAdd,Nat.reduceMul,hR,k4,Bool.not_false]);try rfl) ?_|refine kL (by rfl) aQ aI fH (by rfl) (by decide) aW aI aG (by (try simp (disch:=omega) only [go_sem,hR,k4,Bool.not_false]);try rfl) aI ?_|refine bP ?_|refine bU dN ?_|refine iM dN (by rfl) aQ l9 (by (try simp (disch:=omega) only [go_sem,reduceIte,Nat.reduceEqDiff,Nat.reduceAdd,Nat.reduceMul,hR,k4,Bool.not_false]);try omega) aW (by (try simp (disch:=omega) only [go_sem,reduceIte,Nat.reduceEqDiff,Nat.reduceAdd,Nat.reduceMul,hR,k4,Bool.not_false]);try rfl) dN (by omega) fP aG (by (try simp (disch:=omega) only [go_sem,reduceIte,Nat.reduceEqDiff,Nat.reduceAdd,Nat.reduceMul,hR,k4,Bool.not_false]);try rfl) aI ?_)
       exact bZ [1,2,4,5,6,8,9,11,12,13,14] (k+1,gb.set (cd w.length ((R.getD k default).f,v.2)).toNat true,L++[((R.getD k default).f,v.2)]) ⟨hkl,hrj.add hin hrow hkl hp hmem,hg.add hxin,by simp only [hll];omega⟩ dW (by simp only [hll,<- nK,hcde];rfl)
     ·by_cases h0:0<v.2
      ·by_cases he:w.getD (v.2 - 1).toNat 0=(R.getD k default).i
       ·have hp:iR w v (R.getD k default)=some ((R.getD k default).f,v.2 - 1):=by simp only [iR,if_neg hai];exact if_pos ⟨h0,he⟩
        have hxin:rP fin.length w ((R.getD k default).f,v.2 - 1):=⟨ha.1,ha.2.1,by simp only;omega,by simp only;omega⟩
        obtain ⟨k1,k2,k3,k4⟩:=key (v.2 - 1) hxin
        rw [<- Int.add_sub_assoc] at k2 k3 k4
        by_cases hmem:((R.getD k default).f,v.2 - 1)∈L
        ·rw [decide_eq_true hmem] at k4
         repeat (first|refine ah ?_|refine aJ ?_|refine dA (by rfl) aG (by (try simp (disch:=omega) only [go_sem,hR]);try rfl) ?_|refine dK (by rfl) aW (by (try simp (disch:=omega) only [go_sem,reduceIte,Nat.reduceEqDiff,Nat.reduceAdd,Nat.reduceMul,hR]);try rfl) aG (by (try simp (disch:=omega) only [go_sem,hR]);try rfl) aQ ?_|refine af ?_|refine ay ?_|refine bC ?_|refine aB ?_|refine ak ?_|refine ax ?_|refine au ?_|refine ae ?_|refine aA ?_|refine aH ?_|refine aF ?_|refine gB (by rfl) aG (by (try simp (disch:=omega) only [go_sem,reduceIte,Nat.reduceEqDiff,Nat.reduceAdd,Nat.reduceMul,hR]);try rfl) ?_|refine kL (by rfl) aQ aI fH (by rfl) (by decide) aW aI aG (by (try simp (disch:=omega) only [go_sem,hR]);try rfl) aI ?_|refine bU dN ?_)
         refine dG bu bu (fun _ _ _=>False) ?_
         repeat (first|refine ah ?_|refine aO ?_|refine aJ ?_|refine cZ ?_|refine dA (by rfl) aG (by (try simp (disch:=omega) only [go_sem,hR,k4,Bool.not_true]);try rfl) ?_|refine dK (by rfl) aW (by (try simp (disch:=omega) only [go_sem,reduceIte,Nat.reduceEqDiff,Nat.reduceAdd,Nat.reduceMul,hR,k4,Bool.not_true]);try rfl) aG (by (try simp (disch:=omega) only [go_sem,hR,k4,Bool.not_true]);try rfl) aQ ?_|refine af ?_|refine bC ?_|refine aK ?_|refine eU (by rfl) (by rfl) (by (try simp (disch:=omega) only [go_sem,Int.reduceAdd,Int.reduceSub,Int.reduceMul,hR,k4,Bool.not_true]);try rfl) ?_|refine ak ?_|refine ax ?_|refine au ?_|refine ae ?_|refine dH ?_|refine aH ?_|refine wS (by rfl) (by rfl) (by (try simp (disch:=omega) only [go_sem,Int.reduceAdd,Int.reduceSub,Int.reduceMul,hR,k4,Bool.not_true]);try rfl) ?_|refine pg (by rfl) (by rfl) (by (try simp (disch:=omega) only [go_sem,Int.reduceAdd,Int.reduceSub,Int.reduceMul,hR,k4,Bool.not_true]);try rfl) ?_|refine bI ?_|refine dh ?_|refine gI (by rfl) ?_|refine aF ?_)
         exact bZ [1,2,4,5,6,8,9,11,12,13,14] (k+1,gb,L) ⟨hkl,hrj.skip hkl (fun x hx=>by rw [hp] at hx;cases hx;exact hmem),hg,hlm⟩ dW rfl
        ·rw [decide_eq_false hmem] at k4
         have hll:(L++[((R.getD k default).f,v.2 - 1)]).length=L.length+1:=by simp
         have hcde:cd w.length ((R.getD k default).f,v.2 - 1)=(R.getD k default).f*((w.length:Int)+1)+v.2 - 1:=by unfold cd;simp only;try omega
         repeat (first|refine ah ?_|refine aJ ?_|refine dA (by rfl) aG (by (try simp (disch:=omega) only [go_sem,hR]);try rfl) ?_|refine dK (by rfl) aW (by (try simp (disch:=omega) only [go_sem,reduceIte,Nat.reduceEqDiff,Nat.reduceAdd,Nat.reduceMul,hR]);try rfl) aG (by (try simp (disch:=omega) only [go_sem,hR]);try rfl) aQ ?_|refine af ?_|refine ay ?_|refine bC ?_|refine aB ?_|refine ak ?_|refine ax ?_|refine au ?_|refine ae ?_|refine aA ?_|refine aH ?_|refine aF ?_|refine gB (by rfl) aG (by (try simp (disch:=omega) only [go_sem,reduceIte,Nat.reduceEqDiff,Nat.reduceAdd,Nat.reduceMul,hR]);try rfl) ?_|refine kL (by rfl) aQ aI fH (by rfl) (by decide) aW aI aG (by (try simp (disch:=omega) only [go_sem,hR]);try rfl) aI ?_|refine bU dN ?_)
         refine dG bu bu (fun _ _ _=>False) ?_
         repeat (first|refine ah ?_|refine aO ?_|refine aJ ?_|refine cZ ?_|refine dA (by rfl) aG (by (try simp (disch:=omega) only [go_sem,hR,k4,Bool.not_false]);try rfl) ?_|refine dK (by rfl) aW (by (try simp (disch:=omega) only [go_sem,reduceIte,Nat.reduceEqDiff,Nat.reduceAdd,Nat.reduceMul,hR,k4,Bool.not_false]);try rfl) aG (by (try simp (disch:=omega) only [go_sem,hR,k4,Bool.not_false]);try rfl) aQ ?_|refine af ?_|refine bC ?_|refine aK ?_|refine eU (by rfl) (by rfl) (by (try simp (disch:=omega) only [go_sem,Int.reduceAdd,Int.reduceSub,Int.reduceMul,hR,k4,Bool.not_false]);try rfl) ?_|refine ak ?_|refine au ?_|refine ae ?_|refine dH ?_|refine wS (by rfl) (by rfl) (by (try simp (disch:=omega) only [go_sem,Int.reduceAdd,Int.reduceSub,Int.reduceMul,hR,k4,Bool.not_false]);try rfl) ?_|refine pg (by rfl) (by rfl) (by (try simp (disch:=omega) only [go_sem,Int.reduceAdd,Int.reduceSub,Int.reduceMul,hR,k4,Bool.not_false]);try rfl) ?_|refine bI ?_|refine dh ?_|refine iG (by rfl) ?_|refine aF ?_|refine kL (by rfl) aQ aI fH (by rfl) (by decide) aW aI aG (by (try simp (disch:=omega) only [go_sem,hR,k4,Bool.not_false]);try rfl) aI ?_|refine bP ?_|refine iM dN (by rfl) aQ l9 (by (try simp (disch:=omega) only [go_sem,reduceIte,Nat.reduceEqDiff,Nat.reduceAdd,Nat.reduceMul,hR,k4,Bool.not_false]);try omega) aW (by (try simp (disch:=omega) only [go_sem,reduceIte,Nat.reduceEqDiff,Nat.reduceAdd,Nat.reduceMul,hR,k4,Bool.not_false]);try rfl) dN (by omega) fP aG (by (try simp (disch:=omega) only [go_sem,reduceIte,Nat.reduceEqDiff,Nat.reduceAdd,Nat.reduceMul,hR,k4,Bool.not_false]);try rfl) aI ?_)
         exact bZ [1,2,4,5,6,8,9,11,12,13,14] (k+1,gb.set (cd w.length ((R.getD k default).f,v.2 - 1)).toNat true,L++[((R.getD k default).f,v.2 - 1)]) ⟨hkl,hrj.add hin hrow hkl hp hmem,hg.add hxin,by simp only [hll];omega⟩ dW (by simp only [hll,<- nK,hcde];rfl)
       ·have hp:iR w v (R.getD k default)=none:=by simp only [iR,if_neg hai];exact if_neg fun h=>he h.2
        repeat (first|refine ah ?_|refine aJ ?_|refine dA (by rfl) aG (by (try simp (disch:=omega) only [go_sem,hR]);try rfl) ?_|refine dK (by rfl) aW (by (try simp (disch:=omega) only [go_sem,reduceIte,Nat.reduceEqDiff,Nat.reduceAdd,Nat.reduceMul,hR]);try rfl) aG (by (try simp (disch:=omega) only [go_sem,hR]);try rfl) aQ ?_|refine af ?_|refine ay ?_|refine bC ?_|refine aB ?_|refine ak ?_|refine ax ?_|refine au ?_|refine ae ?_|refine aA ?_|refine aH ?_|refine aF ?_|refine gB (by rfl) aG (by (try simp (disch:=omega) only [go_sem,reduceIte,Nat.reduceEqDiff,Nat.reduceAdd,Nat.reduceMul,hR]);try rfl) ?_|refine kL (by rfl) aQ aI fH (by rfl) (by decide) aW aI aG (by (try simp (disch:=omega) only [go_sem,hR]);try rfl) aI ?_|refine bU dN ?_)
        refine dG bu bu (fun _ _ _=>False) ?_
        repeat (first|refine ah ?_|refine aO ?_|refine cu ?_|refine aJ ?_|refine dA (by rfl) aG (by (try simp (disch:=omega) only [go_sem,hR]);try rfl) ?_|refine dK (by rfl) aW (by (try simp (disch:=omega) only [go_sem,reduceIte,Nat.reduceEqDiff,Nat.reduceAdd,Nat.reduceMul,hR]);try rfl) aG (by (try simp (disch:=omega) only [go_sem,hR]);try rfl) aQ ?_|refine af ?_|refine bC ?_|refine aK ?_|refine aN ?_|refine eU (by rfl) (by rfl) (by (try simp (disch:=omega) only [go_sem,Int.reduceAdd,Int.reduceSub,Int.reduceMul,hR]);try rfl) ?_|refine ax ?_|refine au ?_|refine ae ?_|refine dH ?_|refine aH ?_|refine wS (by rfl) (by rfl) (by (try simp (disch:=omega) only [go_sem,Int.reduceAdd,Int.reduceSub,Int.reduceMul,hR]);try rfl) ?_|refine bI ?_|refine dh ?_|refine aF ?_)
        exact bZ [1,2,4,5,6,8,9,11,12,13,14] (k+1,gb,L) ⟨hkl,hrj.skip hkl (fun x hx=>by rw [hp] at hx;cases hx),hg,hlm⟩ dW rfl
      ·have hp:iR w v (R.getD k default)=none:=by simp only [iR,if_neg hai];exact if_neg fun h=>h0 h.1
       repeat (first|refine ah ?_|refine aJ ?_|refine dA (by rfl) aG (by (try simp (disch:=omega) only [go_sem,hR]);try rfl) ?_|refine dK (by rfl) aW (by (try simp (disch:=omega) only [go_sem,reduceIte,Nat.reduceEqDiff,Nat.reduceAdd,Nat.reduceMul,hR]);try rfl) aG (by (try simp (disch:=omega) only [go_sem,hR]);try rfl) aQ ?_|refine af ?_|refine ay ?_|refine bC ?_|refine aB ?_|refine ak ?_|refine ax ?_|refine au ?_|refine ae ?_|refine aA ?_|refine aH ?_|refine aF ?_|refine gB (by rfl) aG (by (try simp (disch:=omega) only [go_sem,reduceIte,Nat.reduceEqDiff,Nat.reduceAdd,Nat.reduceMul,hR]);try rfl) ?_|refine kL (by rfl) aQ aI fH (by rfl) (by decide) aW aI aG (by (try simp (disch:=omega) only [go_sem,hR]);try rfl) aI ?_|refine bU dN ?_)
       refine dG bu bu (fun _ _ _=>False) ?_
       repeat (first|refine ah ?_|refine cu ?_|refine af ?_|refine aN ?_|refine eU (by rfl) (by rfl) (by (try simp (disch:=omega) only [go_sem,Int.reduceAdd,Int.reduceSub,Int.reduceMul,hR]);try rfl) ?_|refine ax ?_|refine au ?_|refine ae ?_|refine dH ?_|refine aH ?_|refine bI ?_|refine dh ?_)
       exact bZ [1,2,4,5,6,8,9,11,12,13,14] (k+1,gb,L) ⟨hkl,hrj.skip hkl (fun x hx=>by rw [hp] at hx;cases hx),hg,hlm⟩ dW rfl
    ·obtain rfl:k=R.length:=by omega
     have hdn:=hrj.done hrow
     repeat (first|refine ah ?_|refine aJ ?_|refine dA (by rfl) aG (by (try simp (disch:=omega) only [go_sem,hR]);try rfl) ?_|refine af ?_|refine ay ?_|refine eU (by rfl) (by rfl) (by (try simp (disch:=omega) only [go_sem,Int.reduceAdd,Int.reduceSub,Int.reduceMul,hR]);try rfl) ?_|refine aB ?_|refine bD (by rfl) ?_|refine ax ?_|refine au ?_|refine ae ?_|refine dH ?_)
     exact bZ [1,2,4,5,6,8,9,11] (i+1,gb,L) ⟨hdn,hg,by simp only;omega⟩ dW rfl
   ·have hd:=hri.done (by omega)
    repeat (first|refine ah ?_|refine af ?_|refine ay ?_|refine dO (by rfl) ?_|refine bD (by rfl) ?_|refine ax ?_|refine au ?_|refine ae ?_|refine bz ?_)
    refine dF bW dm (KX fin al hv) ?_
    rintro _ rfl
    refine ⟨cO,_,_,_,_,_,gY,(by decide),bT,?_⟩
    repeat (first|refine ah ?_|refine af ?_|refine dw ?_|refine dB ?_)
    refine az ?_
    exact ⟨_,_,rfl,rfl,L,gb,by rw [UM,fJ,hgl];rfl,hg,hri.nd,hd⟩
end Go.Proofs.Ytlbdmpjnmfmnfaa
