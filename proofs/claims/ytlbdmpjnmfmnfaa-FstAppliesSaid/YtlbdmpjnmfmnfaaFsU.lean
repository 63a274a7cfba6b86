import Derived.Test.YtlbdmpjnmfmnfaaFsR
set_option linter.unusedSimpArgs false
set_option linter.unusedVariables false
namespace Go.Proofs.Ytlbdmpjnmfmnfaa
open Go.RowKit Go.HL Go.FS
theorem yR {w:List Int} {G:List Nd} {a:A} {z:Int} {y:Nd} (h:iy w G a z=(y,true)):y∈G:=by
 unfold iy at h
 split at h
 ·simp only [Prod.mk.injEq,decide_eq_true_eq] at h;rw [<- h.1];exact h.2
 ·split at h
  ·simp only [Prod.mk.injEq,decide_eq_true_eq] at h;rw [<- h.1];exact h.2
  ·simp at h
set_option maxHeartbeats 8000000 in
theorem AU (fin:List Bool) (al:List A) (w:List Int) (G S:List Nd) (gb:List Bool) (hv:okF fin al=true) (hw:w.length<=1024) (hG:∀x,x∈G <-> FS.Good fin al w x) (hb:GB fin.length w G gb) (hS:∀x∈S,FS.Good fin al w x) (hSl:S.length<=1000000000000) :
  HT Try.prog 60 [.agg (wY w (bn (·.f) fin.length al) gb),.sl S.length (oq w S)] (fun r=>∃L,r=.osl 1 L.length (oq w L)/\(∀x,x∈L <-> Cl fin al w (·∈S) x)/\L.Nodup):=by
 obtain ⟨h1,h2,h3⟩:=iF hv
 have hin:∀a∈al,0<=a.f/\a.f<fin.length:=fun a ha=>by have:=fE hv ha;omega
 have hgb:=kN (n:=fin.length) (w:=w) h2 hw
 have hfl:=fJ (·.f) fin.length al
 have hrf:∀i:Nat,i<fin.length->(bn (·.f) fin.length al).getD i []=al.filter fun a=>a.f==(i:Int):=fun i hi=>jh _ _ hi
 generalize hLF:bn (·.f) fin.length al=LF at hfl hrf
 obtain ⟨N,hN⟩:∃N,fin.length*(w.length+1)=N:=⟨_,rfl⟩
 have hG0:=GB.start hN
 have hgl:=hb.len
 rw [hN] at hgl hgb
 have hSi:∀x∈S,rP fin.length w x:=fun x hx=>jd hin (hS x hx)
 refine HT.of rfl ab4 (Nat.le_of_ble_eq_true rfl) ?_
 unfold c60
 simp only [aX,Nat.reduceAdd,wY,hgl]
 repeat (first|refine ah ?_|refine aS ?_|refine af ?_|refine bf ?_|refine aB ?_|refine au ?_|refine ae ?_|refine aA ?_|refine aZ ?_|refine aF ?_|refine di ?_|refine lH dN (by rfl) (by omega) aI aI ?_)
 refine bQ [1,2,5,6,7,8] (fun s:Nat×List Bool×List Nd=>s.1<=S.length/\s.2.2.Nodup/\(∀x,x∈s.2.2 <-> x∈S.take s.1)/\GB fin.length w s.2.2 s.2.1)
  (fun s=>⟨[(1,.sl S.length (oq w S)),(2,.pref 0 [] 0),(5,.int .i64 ((w.length:Int)+1)),(6,.ref 1 [] 1 0 N),(7,.ref 2 [] 1 0 s.2.2.length),(8,.int .i64 s.1)],[(0,.optr [.sl w.length (HL.ints w),.sl LF.length (dL LF),.sl N (HL.bools gb)]),(1,.osl 1 N (HL.bools s.2.1)),(2,.osl 1 s.2.2.length (oq w s.2.2))],3⟩)
  (fun s=>S.length - s.1) (0,List.replicate N false,[]) ⟨by simp,by simp,by simp,hG0⟩ rfl ?_
 rintro ⟨k,sb,L⟩ ⟨hk,hLn,hLm,hg⟩
 simp only at hk hLn hLm hg ⊢
 have hsl:=hg.len
 rw [hN] at hsl
 have hLi:∀x∈L,rP fin.length w x:=fun x hx=>hSi x (List.mem_of_mem_take ((hLm x).1 hx))
 have hcard:=iP hLn hLi
 rw [hN] at hcard
 by_cases hkl:k<S.length
 ·have htk:=dE hkl
  have hxm:S.getD k default∈S:=by rw [List.getD_eq_getElem?_getD,List.getElem?_eq_getElem hkl];exact List.getElem_mem _
  have hxi:=hSi _ hxm
  have hxc:=ng hxi
  rw [hN] at hxc
  have hxg:=hg.at_ _ hxi
  generalize hxe:S.getD k default=x at htk hxm hxi hxc hxg
  by_cases hmem:x∈L
  ·rw [decide_eq_true hmem] at hxg
   repeat (first|refine ah ?_|refine aJ ?_|refine cZ ?_|refine dA (by rfl) aG (by (try simp (disch:=omega) only [go_sem,hxe,hxg,Bool.not_true]);try rfl) ?_|refine dK (by rfl) aW (by (try simp (disch:=omega) only [go_sem,reduceIte,Nat.reduceEqDiff,Nat.reduceAdd,Nat.reduceMul,hxe,hxg,Bool.not_true]);try rfl) aG (by (try simp (disch:=omega) only [go_sem,hxe,hxg,Bool.not_true]);try rfl) aQ ?_|refine af ?_|refine ay ?_|refine eU (by rfl) (by rfl) (by (try simp (disch:=omega) only [go_sem,Int.reduceAdd,Int.reduceSub,Int.reduceMul,hxe,hxg,Bool.not_true]);try rfl) ?_|refine aB ?_|refine ak ?_|refine ax ?_|refine au ?_|refine ae ?_|refine aA ?_|refine dH ?_|refine aH ?_|refine gI (by rfl) ?_)
   exact bZ [1,2,5,6,7,8] (k+1,sb,L) ⟨hkl,hLn,fun y=>by rw [htk,List.mem_append,List.mem_singleton,<- hLm];exact ⟨.inl,fun h=>h.elim id fun e=>e▸hmem⟩,hg⟩ dW rfl
  ·rw [decide_eq_false hmem] at hxg
   have hll:(L++[x]).length=L.length+1:=by simp
   repeat (first|refine ah ?_|refine aJ ?_|refine cZ ?_|refine dA (by rfl) aG (by (try simp (disch:=omega) only [go_sem,hxe,hxg,Bool.not_false]);try rfl) ?_|refine dK (by rfl) aW (by (try simp (disch:=omega) only [go_sem,reduceIte,Nat.reduceEqDiff,Nat.reduceAdd,Nat.reduceMul,hxe,hxg,Bool.not_false]);try rfl) aG (by (try simp (disch:=omega) only [go_sem,hxe,hxg,Bool.not_false]);try rfl) aQ ?_|refine af ?_|refine ay ?_|refine eU (by rfl) (by rfl) (by (try simp (disch:=omega) only [go_sem,Int.reduceAdd,Int.reduceSub,Int.reduceMul,hxe,hxg,Bool.not_false]);try rfl) ?_|refine aB ?_|refine ak ?_|refine au ?_|refine ae ?_|refine aA ?_|refine dH ?_|refine aH ?_|refine iG (by rfl) ?_|refine kL (by rfl) aQ aI fH (by rfl) (by decide) aW aI aG (by (try simp (disch:=omega) only [go_sem,hxe,hxg,Bool.not_false]);try rfl) aI ?_|refine bP ?_|refine iM dN (by rfl) aQ l9 (by (try simp (disch:=omega) only [go_sem,reduceIte,Nat.reduceEqDiff,Nat.reduceAdd,Nat.reduceMul,hxe,hxg,Bool.not_false]);try omega) aW (by (try simp (disch:=omega) only [go_sem,reduceIte,Nat.reduceEqDiff,Nat.reduceAdd,Nat.reduceMul,hxe,hxg,Bool.not_false]);try rfl) dN (by omega) fP aG (by (try simp (disch:=omega) only [go_sem,reduceIte,Nat.reduceEqDiff,Nat.reduceAdd,Nat.reduceMul,hxe,hxg,Bool.not_false]);try rfl) aI ?_)
   exact bZ [1,2,5,6,7,8] (k+1,sb.set (cd w.length x).toNat true,L++[x]) ⟨hkl,by
    rw [List.nodup_append]
    exact ⟨hLn,by simp,fun a ha b hb e=>by simp only [List.mem_singleton] at hb;subst hb;subst e;exact hmem ha⟩,fun y=>by rw [htk,List.mem_append,List.mem_append,List.mem_singleton,<- hLm],hg.add hxi⟩ dW (by simp only [hll,<- nK];rfl)
 ·obtain rfl:k=S.length:=by omega
  rw [List.take_length] at hLm
  have hwi:WI fin al w S 0 L L:=⟨fun _=>Iff.rfl,hLn,by omega,fun x hx=>.on ((hLm x).1 hx),fun x hx=>(hLm x).2 hx,fun j hj=>absurd hj (Nat.not_lt_zero _)⟩
  repeat (first|refine ah ?_|refine af ?_|refine ay ?_|refine aB ?_|refine bD (by rfl) ?_|refine ax ?_|refine au ?_|refine ae ?_|refine aA ?_)
  refine bQ [2,5,6,7,9] (fun s:Nat×List Bool×List Nd=>WI fin al w S s.1 s.2.2 s.2.2/\GB fin.length w s.2.2 s.2.1/\s.1<=s.2.2.length)
   (fun s=>⟨[(2,.pref 0 [] 0),(5,.int .i64 ((w.length:Int)+1)),(6,.ref 1 [] 1 0 N),(7,.ref 2 [] 1 0 s.2.2.length),(9,.int .i64 s.1)],[(0,.optr [.sl w.length (HL.ints w),.sl LF.length (dL LF),.sl N (HL.bools gb)]),(1,.osl 1 N (HL.bools s.2.1)),(2,.osl 1 s.2.2.length (oq w s.2.2))],3⟩)
   (fun s=>(N - s.2.2.length)+(s.2.2.length - s.1)) (0,sb,L) ⟨hwi,hg,by simp⟩ rfl ?_
  clear hwi hcard hLi hsl hg hLm hLn L sb
  rintro ⟨i,sb,L⟩ ⟨hwi,hg,hil⟩
  simp only at hwi hg hil ⊢
  have hsl:=hg.len
  rw [hN] at hsl
  have hLg:∀x∈L,FS.Good fin al w x:=fun x hx=>oZ hS (hwi.sub x hx)
  have hcard:=iP hwi.nd fun x hx=>jd hin (hLg x hx)
  rw [hN] at hcard
  by_cases hi:i<L.length
  ·have hvm:L.getD i default∈L:=by rw [List.getD_eq_getElem?_getD,List.getElem?_eq_getElem hi];exact List.getElem_mem _
   have hvi:=jd hin (hLg _ hvm)
   have hdiv:=uZ hvi
   have hmod:=uX hvi
   have hrow:=hrf (L.getD i default).1.toNat (by have:=hvi.2.1;have:=hvi.1;omega)
   rw [show (((L.getD i default).1.toNat:Nat):Int)=(L.getD i default).1 by have:=hvi.1;omega] at hrow
   have hwj:=hwi.begin (G:=G) (R:=LF.getD (L.getD i default).1.toNat []) hi
   generalize hve:L.getD i default=v at hrow hwj hvi hdiv hmod
   generalize hR:LF.getD v.1.toNat []=R at hrow hwj
   have hrl:R.length<=al.length:=by rw [hrow];exact List.length_filter_le _ _
   have hcv:=ng hvi
   rw [hN] at hcv
   obtain ⟨g1,g2,g3,g4⟩:=hvi
   repeat (first|refine ah ?_|refine af ?_|refine ay ?_|refine dO (by rfl) ?_|refine ak ?_|refine au ?_|refine ae ?_|refine aA ?_|refine aH ?_)
   refine dG bu bu (fun _ _ _=>False) ?_
   repeat (first|refine ah ?_|refine aJ ?_|refine cZ ?_|refine dA (by rfl) aG (by (try simp (disch:=omega) only [go_sem,hve,hdiv,hR]);try rfl) ?_|refine dK (by rfl) aW (by (try simp (disch:=omega) only [go_sem,reduceIte,Nat.reduceEqDiff,Nat.reduceAdd,Nat.reduceMul,hve,hdiv,hR]);try rfl) aG (by (try simp (disch:=omega) only [go_sem,hve,hdiv,hR]);try rfl) aQ ?_|refine af ?_|refine au ?_|refine ae ?_|refine aA ?_|refine sZ (by rfl) (by rfl) (by omega) (by (try simp (disch:=omega) only [go_sem,Int.reduceAdd,Int.reduceSub,Int.reduceMul,hve,hdiv,hR]);try rfl) ?_|refine aF ?_)
   trace_state
   refine bQ [2,5,6,7,9,10,11] (fun s:Nat×List Bool×List Nd=>s.1<=R.length/\WJ fin al w G S i v R s.1 s.2.2 s.2.2/\GB fin.length w s.2.2 s.2.1/\L.length<=s.2.2.length)
    (fun s=>⟨[(2,.pref 0 [] 0),(5,.int .i64 ((w.length:Int)+1)),(6,.ref 1 [] 1 0 N),(7,.ref 2 [] 1 0 s.2.2.length),(9,.int .i64 i),(10,.sl R.length (recs aC R)),(11,.int .i64 s.1)],[(0,.optr [.sl w.length (HL.ints w),.sl LF.length (dL LF),.sl N (HL.bools gb)]),(1,.osl 1 N (HL.bools s.2.1)),(2,.osl 1 s.2.2.length (oq w s.2.2))],3⟩)
    (fun s=>R.length - s.1) (0,sb,L) ⟨by simp,hwj,hg,by simp⟩ rfl ?_
   clear hwj hsl hg hLg hvm
   generalize hL0:L.length=l0 at hcard hi hil
   rintro ⟨k,sb,L'⟩ ⟨hkk,hwj,hg,hlm⟩
   simp only at hkk hwj hg hlm ⊢
   have hsl:=hg.len
   rw [hN] at hsl
   have hLg:∀x∈L',FS.Good fin al w x:=fun x hx=>oZ hS (hwj.wi.sub x hx)
   have hcard':=iP hwj.wi.nd fun x hx=>jd hin (hLg x hx)
   rw [hN] at hcard'
   have hat:=hwj.at_
   have hilt:=hwj.lt
   by_cases hkl:k<R.length
   ·have ham:R.getD k default∈al:=by
     have:=gU hkl
     rw [hrow] at this ⊢
     exact (List.mem_filter.1 this).1
    have ha:=fE hv ham
    have hnx:=Dl fin.length w LF G gb (R.getD k default) v.2 g3 hw g4 h2 ⟨ha.2.2.1,ha.2.2.2.1⟩ hb
    have hsk:=hwj.skip hkl
    have had:=fun y=>hwj.add hG hrow g3 hkl (y:=y)
    obtain ⟨y,b,hy⟩:∃y b,iy w G (R.getD k default) v.2=(y,b):=⟨_,_,rfl⟩
    have hnr:nO w G (R.getD k default) v.2=if b then cd w.length y else -1:=by simp only [nO,hy]
    rw [hy] at hsk had
    rw [hnr] at hnx
    simp only [wY,aC,hgl] at hnx
    cases b with
    | false =>
     simp only [Bool.false_eq_true,if_false] at hnx
     repeat (first|refine ah ?_|refine af ?_|refine ay ?_|refine aB ?_|refine ak ?_|refine au ?_|refine ae ?_|refine aA ?_|refine aH ?_)
     refine dG bu bu (fun _ _ r=>r=.int .i64 (-1)) ?_
     repeat (first|refine ah ?_|refine aJ ?_|refine cZ ?_|refine dK (by rfl) aW (by (try simp (disch:=omega) only [go_sem,reduceIte,Nat.reduceEqDiff,Nat.reduceAdd,Nat.reduceMul,hat,hmod]);try rfl) aG (by (try simp (disch:=omega) only [go_sem,hat,hmod]);try rfl) aQ ?_|refine mG (by rfl) (by rfl) (by omega) (by (try simp (disch:=omega) only [go_sem,Int.reduceAdd,Int.reduceSub,Int.reduceMul,hat,hmod]);try rfl) ?_|refine gB (by rfl) aG (by (try simp (disch:=omega) only [go_sem,reduceIte,Nat.reduceEqDiff,Nat.reduceAdd,Nat.reduceMul,hat,hmod]);try rfl) ?_|refine iE (by rfl) aW aI aG (by decide) (by (try simp (disch:=omega) only [go_sem,reduceIte,Nat.reduceEqDiff,Nat.reduceAdd,Nat.reduceMul,hat,hmod]);try rfl) fH ?_)
     refine fD bW dm hnx ⟨_,rfl,rfl⟩ ?_
     rintro _ rfl -
     refine ⟨cO,_,_,_,_,_,gY,(by decide),bT,?_⟩
     repeat (first|refine ah ?_|refine cu ?_|refine af ?_|refine aN ?_|refine bf ?_|refine ax ?_|refine au ?_|refine ae ?_|refine dH ?_|refine aH ?_|refine dh ?_)
     exact bZ [2,5,6,7,9,10,11] (k+1,sb,L') ⟨hkl,hsk (fun _ _ h=>by simp at h),hg,hlm⟩ dW rfl
    | true =>
     simp only [if_true] at hnx
     have hyi:=jd hin ((hG y).1 (yR hy))
     have hyc:=ng hyi
     rw [hN] at hyc
     have hyg:=hg.at_ _ hyi
     by_cases ho:(R.getD k default).o = -1
     ·by_cases hmem:y∈L'
      ·rw [decide_eq_true hmem] at hyg
       repeat (first|refine ah ?_|refine af ?_|refine ay ?_|refine aB ?_|refine ak ?_|refine au ?_|refine ae ?_|refine aA ?_|refine aH ?_)
       refine dG bu bu (fun _ _ r=>r=.int .i64 (cd w.length y)) ?_
       repeat (first|refine ah ?_|refine aJ ?_|refine cZ ?_|refine dK (by rfl) aW (by (try simp (disch:=omega) only [go_sem,reduceIte,Nat.reduceEqDiff,Nat.reduceAdd,Nat.reduceMul,hat,hmod]);try rfl) aG (by (try simp (disch:=omega) only [go_sem,hat,hmod]);try rfl) aQ ?_|refine mG (by rfl) (by rfl) (by omega) (by (try simp (disch:=omega) only [go_sem,Int.reduceAdd,Int.reduceSub,Int.reduceMul,hat,hmod]);try rfl) ?_|refine gB (by rfl) aG (by (try simp (disch:=omega) only [go_sem,reduceIte,Nat.reduceEqDiff,Nat.reduceAdd,Nat.reduceMul,hat,hmod]);try rfl) ?_|refine iE (by rfl) aW aI aG (by decide) (by (try simp (disch:=omega) only [go_sem,reduceIte,Nat.reduceEqDiff,Nat.reduceAdd,Nat.reduceMul,hat,hmod]);try rfl) fH ?_)
       refine fD bW dm hnx ⟨_,rfl,rfl⟩ ?_
       rintro _ rfl -
       refine ⟨cO,_,_,_,_,_,gY,(by decide),bT,?_⟩
       repeat (first|refine ah ?_|refine aO ?_|refine aJ ?_|refine cZ ?_|refine dA (by rfl) aG (by (try simp (disch:=omega) only [go_sem,hyg,Bool.not_true]);try rfl) ?_|refine dK (by rfl) aW (by (try simp (disch:=omega) only [go_sem,reduceIte,Nat.reduceEqDiff,Nat.reduceAdd,Nat.reduceMul,hyg,Bool.not_true]);try rfl) aG (by (try simp (disch:=omega) only [go_sem,hyg,Bool.not_true]);try rfl) aQ ?_|refine af ?_|refine bC ?_|refine aK ?_|refine eU (by rfl) (by rfl) (by (try simp (disch:=omega) only [go_sem,Int.reduceAdd,Int.reduceSub,Int.reduceMul,hyg,Bool.not_true]);try rfl) ?_|refine ax ?_|refine au ?_|refine ae ?_|refine dH ?_|refine aH ?_|refine dh ?_|refine gI (by rfl) ?_|refine aY ?_)
       exact bZ [2,5,6,7,9,10,11] (k+1,sb,L') ⟨hkl,hsk (fun _ z h=>by simp only [Prod.mk.injEq,and_true] at h;rw [<- h];exact hmem),hg,hlm⟩ dW rfl
      ·rw [decide_eq_false hmem] at hyg
       have hll:(L'++[y]).length=L'.length+1:=by simp
       repeat (first|refine ah ?_|refine af ?_|refine ay ?_|refine aB ?_|refine ak ?_|refine au ?_|refine ae ?_|refine aA ?_|refine aH ?_)
       refine dG bu bu (fun _ _ r=>r=.int .i64 (cd w.length y)) ?_
       repeat (first|refine ah ?_|refine aJ ?_|refine cZ ?_|refine dK (by rfl) aW (by (try simp (disch:=omega) only [go_sem,reduceIte,Nat.reduceEqDiff,Nat.reduceAdd,Nat.reduceMul,hat,hmod]);try rfl) aG (by (try simp (disch:=omega) only [go_sem,hat,hmod]);try rfl) aQ ?_|refine mG (by rfl) (by rfl) (by omega) (by (try simp (disch:=omega) only [go_sem,Int.reduceAdd,Int.reduceSub,Int.reduceMul,hat,hmod]);try rfl) ?_|refine gB (by rfl) aG (by (try simp (disch:=omega) only [go_sem,reduceIte,Nat.reduceEqDiff,Nat.reduceAdd,Nat.reduceMul,hat,hmod]);try rfl) ?_|refine iE (by rfl) aW aI aG (by decide) (by (try simp (disch:=omega) only [go_sem,reduceIte,Nat.reduceEqDiff,Nat.reduceAdd,Nat.reduceMul,hat,hmod]);try rfl) fH ?_)
       refine fD bW dm hnx ⟨_,rfl,rfl⟩ ?_
       rintro _ rfl -
       refine ⟨cO,_,_,_,_,_,gY,(by decide),bT,?_⟩
       repeat (first|refine ah ?_|refine aO ?_|refine aJ ?_|refine cZ ?_|refine dA (by rfl) aG (by (try simp (disch:=omega) only [go_sem,hyg,Bool.not_false]);try rfl) ?_|refine dK (by rfl) aW (by (try simp (disch:=omega) only [go_sem,reduceIte,Nat.reduceEqDiff,Nat.reduceAdd,Nat.reduceMul,hyg,Bool.not_false]);try rfl) aG (by (try simp (disch:=omega) only [go_sem,hyg,Bool.not_false]);try rfl) aQ ?_|refine af ?_|refine bC ?_|refine aK ?_|refine eU (by rfl) (by rfl) (by (try simp (disch:=omega) only [go_sem,Int.reduceAdd,Int.reduceSub,Int.reduceMul,hyg,Bool.not_false]);try rfl) ?_|refine ak ?_|refine au ?_|refine ae ?_|refine dH ?_|refine dh ?_|refine iG (by rfl) ?_|refine aY ?_|refine kL (by rfl) aQ aI fH (by rfl) (by decide) aW aI aG (by (try simp (disch:=omega) only [go_sem,hyg,Bool.not_false]);try rfl) aI ?_|refine bP ?_|refine iM dN (by rfl) aQ l9 (by (try simp (disch:=omega) only [go_sem,reduceIte,Nat.reduceEqDiff,Nat.reduceAdd,Nat.reduceMul,hyg,Bool.not_false]);try omega) aW (by (try simp (disch:=omega) only [go_sem,reduceIte,Nat.reduceEqDiff,Nat.reduceAdd,Nat.reduceMul,hyg,Bool.not_false]);try rfl) dN (by omega) fP aG (by (try simp (disch:=omega) only [go_sem,reduceIte,Nat.reduceEqDiff,Nat.reduceAdd,Nat.reduceMul,hyg,Bool.not_false]);try rfl) aI ?_)
       exact bZ [2,5,6,7,9,10,11] (k+1,sb.set (cd w.length y).toNat true,L'++[y]) ⟨hkl,had y ho rfl hmem,hg.add hyi,by simp only [hll];omega⟩ dW (by simp only [hll,<- nK];rfl)
     ·
      repeat (first|refine ah ?_|refine af ?_|refine ay ?_|refine aB ?_|refine ak ?_|refine au ?_|refine ae ?_|refine aA ?_|refine aH ?_)
      refine dG bu bu (fun _ _ r=>r=.int .i64 (cd w.length y)) ?_
      repeat (first|refine ah ?_|refine aJ ?_|refine cZ ?_|refine dK (by rfl) aW (by (try simp (disch:=omega) only [go_sem,reduceIte,Nat.reduceEqDiff,Nat.reduceAdd,Nat.reduceMul,hat,hmod]);try rfl) aG (by (try simp (disch:=omega) only [go_sem,hat,hmod]);try rfl) aQ ?_|refine mG (by rfl) (by rfl) (by omega) (by (try simp (disch:=omega) only [go_sem,Int.reduceAdd,Int.reduceSub,Int.reduceMul,hat,hmod]);try rfl) ?_|refine gB (by rfl) aG (by (try simp (disch:=omega) only [go_sem,reduceIte,Nat.reduceEqDiff,Nat.reduceAdd,Nat.reduceMul,hat,hmod]);try rfl) ?_|refine iE (by rfl) aW aI aG (by decide) (by (try simp (disch:=omega) only [go_sem,reduceIte,Nat.reduceEqDiff,Nat.reduceAdd,Nat.reduceMul,hat,hmod]);try rfl) fH ?_)
      refine fD bW dm hnx ⟨_,rfl,rfl⟩ ?_
      rintro _ rfl -
      refine ⟨cO,_,_,_,_,_,gY,(by decide),bT,?_⟩
      repeat (first|refine ah ?_|refine aO ?_|refine cu ?_|refine aJ ?_|refine dD ?_|refine af ?_|refine bC ?_|refine aK ?_|refine aN ?_|refine bf ?_|refine ax ?_|refine au ?_|refine ae ?_|refine dH ?_|refine aH ?_|refine dh ?_|refine aY ?_)
      exact bZ [2,5,6,7,9,10,11] (k+1,sb,L') ⟨hkl,hsk (fun h=>absurd h ho),hg,hlm⟩ dW rfl
   ·obtain rfl:k=R.length:=by omega
    have hd:=hwj.done hG hrow g3
    repeat (first|refine ah ?_|refine af ?_|refine ay ?_|refine bf ?_|refine aB ?_|refine bD (by rfl) ?_|refine ax ?_|refine au ?_|refine ae ?_|refine dH ?_)
    exact bZ [2,5,6,7,9] (i+1,sb,L') ⟨hd,hg,by simp only;omega⟩ dW rfl
  ·have hd:=hwi.done (by omega)
   repeat (first|refine ah ?_|refine af ?_|refine ay ?_|refine dO (by rfl) ?_|refine bD (by rfl) ?_|refine ax ?_|refine au ?_|refine ae ?_)
   refine az ?_
   exact ⟨L,rfl,hd,hwi.nd⟩
end Go.Proofs.Ytlbdmpjnmfmnfaa
