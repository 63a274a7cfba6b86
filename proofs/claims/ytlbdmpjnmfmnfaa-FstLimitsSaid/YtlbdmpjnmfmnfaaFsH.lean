import Derived.Test.YtlbdmpjnmfmnfaaFsI
set_option linter.unusedSimpArgs false
set_option linter.unusedVariables false
namespace Go.Proofs.Ytlbdmpjnmfmnfaa
open Go.RowKit Go.HL Go.FS
set_option maxHeartbeats 16000000 in
theorem IA (fin:List Bool) (al:List A) (w:List Int) (G S:List Nd) (u:List Int) (W:HV) (hW:(W=.nils/\u=[])\/(W=.sl u.length (HL.ints u)/\0<u.length)) (hv:okF fin al=true) (hw:w.length<=1024) (hG:∀x,x∈G <-> FS.Good fin al w x) (hGl:G.length<=4194304) (hS:∀x,x∈S <-> FS.At fin al w u x) (hSl:S.length<=8388608) (hu:u.length<=8388608) :
  HT Try.prog 58 [.ptr (runT w (bD (·.f) fin.length al) G) 0,.agg [W,.sl S.length (nY S)]] (fun r=>∃rows,r=.osl 2 rows.length (recs jI rows)/\rows.map (·.1)=ext fin al w u/\∀q∈rows,Row fin al w G.length q):=by
 obtain ⟨h1,h2,h3⟩:=gm hv
 have hk:vU al:=fun a ha=>by have:=fD hv ha;omega
 have hSg:∀x∈S,FS.Good fin al w x:=fun x hx=>((hS x).1 hx).good
 have hSi:∀x∈S,JA fin.length w x:=fun x hx=>ui (fun a ha=>by have:=fD hv ha;omega) (hSg x hx)
 have hwide:=fun T=>Az fin al w G T hv hw hG hGl
 have hWf:bW [W,.sl S.length (nY S)]=true:=by rcases hW with ⟨rfl,_⟩|⟨rfl,_⟩<;>rfl
 have hfl:=iE (·.f) fin.length al
 have hrf:∀i:Nat,i<fin.length->(bD (·.f) fin.length al).getD i []=al.filter fun a=>a.f==(i:Int):=fun i hi=>kK _ _ hi
 generalize hLF:bD (·.f) fin.length al=LF at hfl hrf hwide
 refine HT.of rfl ZK (Nat.le_of_ble_eq_true rfl) ?_
 unfold c58
 simp only [aY,Nat.reduceAdd,runT]
 refine ak ?_
 refine ae ?_
 refine NR (fr:=0) (by rfl) (eA rfl) rfl hWf rfl ?_
 repeat (first|refine ah ?_|refine aW ?_|refine af ?_|refine dm (by rfl) ?_|refine ak ?_|refine ae ?_|refine aK ?_|refine bK ?_|refine aH ?_|refine uC dZ ?_)
 refine dn [0,3,5,18,19,20] (fun s:Nat×List Int×(Int->List Nd)=>s.1<=S.length/\LN fin al w S s.1 s.2.1 s.2.2)
  (fun s=>⟨[(0,.ptr [.sl w.length (HL.ints w),.sl LF.length (eU LF),.rmap ⟨.ints 2,none⟩ (G.map pk) (kT G.length)] 0),(3,.pref 0 [] 0),(5,.mref 1 []),(18,.sl S.length (recs pC S)),(19,.int .i64 S.length),(20,.int .i64 s.1)],[(0,.optr [W,.sl S.length (nY S)]),(1,.omap ⟨.int .i64,none⟩ (oz s.2.1) (nD s.2.1 s.2.2 fun _=>none))],2⟩)
  (fun s=>S.length - s.1) (0,[],fun _=>[]) ⟨by simp,.start⟩ rfl ?_
 rintro ⟨i,ks,V⟩ ⟨hk1,hln⟩
 simp only at hk1 hln ⊢
 by_cases hi:i<S.length
 ·have hvm:S.getD i default∈S:=by rw [List.getD_eq_getElem?_getD,List.getElem?_eq_getElem hi];exact List.getElem_mem _
  obtain ⟨g1,g2,g3,g4⟩:=hSi _ hvm
  have hrow:=hrf (S.getD i default).1.toNat (by omega)
  rw [show (((S.getD i default).1.toNat:Nat):Int)=(S.getD i default).1 by omega] at hrow
  have hrl:(LF.getD (S.getD i default).1.toNat []).length<=al.length:=by rw [hrow];exact List.length_filter_le _ _
  have hlj:=hln.begin (G:=G) (v:=S.getD i default) (R:=LF.getD (S.getD i default).1.toNat [])
  repeat (first|refine bu ?_|refine af ?_|refine aF ?_|refine ax ?_|refine ak ?_|refine ae ?_|refine aK ?_|refine aI ?_|refine bG ?_|refine dG ?_|refine bI dZ ?_)
  refine gJ bC bC (fun _ _ _=>False) ?_
  repeat (first|refine ah ?_|refine bu ?_|refine dP ?_|refine aW ?_|refine af ?_|refine dm (by rfl) ?_|refine aK ?_|refine dh ?_|refine aH ?_|refine gX aJ rfl ?_)
  generalize hR:LF.getD (S.getD i default).1.toNat []=R at hrow hrl hlj
  refine dn [0,3,5,7,18,19,20,31,32,33] (fun s:Nat×List Int×(Int->List Nd)=>s.1<=R.length/\LJ fin al w G S i (S.getD i default) R s.1 s.2.1 s.2.2)
   (fun s=>⟨[(0,.ptr [.sl w.length (HL.ints w),.sl LF.length (eU LF),.rmap ⟨.ints 2,none⟩ (G.map pk) (kT G.length)] 0),(3,.pref 0 [] 0),(5,.mref 1 []),(7,.pref 2 [] 0),(18,.sl S.length (recs pC S)),(19,.int .i64 S.length),(20,.int .i64 i),(31,.sl R.length (recs aC R)),(32,.int .i64 R.length),(33,.int .i64 s.1)],[(0,.optr [W,.sl S.length (nY S)]),(1,.omap ⟨.int .i64,none⟩ (oz s.2.1) (nD s.2.1 s.2.2 fun _=>none)),(2,.optr [.int .i64 (S.getD i default).1,.int .i64 (S.getD i default).2])],3⟩)
   (fun s=>R.length - s.1) (0,ks,V) ⟨by simp,hlj⟩ rfl ?_
  rintro ⟨k,ks,V⟩ ⟨hkk,hlj⟩
  simp only at hkk hlj ⊢
  by_cases hkl:k<R.length
  ·have hnx:=Gs w LF G (R.getD k default) (S.getD i default).2 g3 hw g4
   have hsk:=hlj.skip hkl
   have had:=fun y=>hlj.add hG hrow g3 hvm hkl (y:=y)
   obtain ⟨y,b,hy⟩:∃y b,jc w G (R.getD k default) (S.getD i default).2=(y,b):=⟨_,_,rfl⟩
   rw [hy] at hnx hsk had
   simp only [runT,aC] at hnx
   obtain ⟨y1,y2⟩:=y
   repeat (first|refine ah ?_|refine bu ?_|refine aW ?_|refine af ?_|refine aF ?_|refine ax ?_|refine ak ?_|refine ae ?_|refine aK ?_|refine aI ?_|refine aH ?_|refine bG ?_|refine gq ?_|refine dG ?_|refine bI dZ ?_)
   refine bT bH dw (hnx) ?_
   rintro _ rfl
   simp only [pT,pC]
   refine ⟨bJ,_,_,_,_,_,gY,(by decide),bF,?_⟩
   cases b with
   | false =>
    repeat (first|refine ah ?_|refine dI ?_|refine af ?_|refine aS ?_|refine bM ?_|refine jA (by rfl) aQ aJ ?_|refine au ?_|refine ak ?_|refine ae ?_|refine gV ?_|refine aI ?_|refine dG ?_|refine bI dZ ?_)
    exact dS [0,3,5,7,18,19,20,31,32,33] (k+1,ks,V) ⟨hkl,hsk (fun _ _ h=>by simp at h)⟩ iH rfl
   | true =>
    by_cases ho:(R.getD k default).o = -1
    ·repeat (first|refine ah ?_|refine aT ?_|refine aW ?_|refine af ?_|refine lh (by rfl) (by rfl) lF ?_|refine aU ?_|refine bM ?_|refine jA (by rfl) aQ aJ ?_|refine au ?_|refine ak ?_|refine ae ?_|refine gV ?_|refine aI ?_|refine aH ?_|refine dG ?_|refine bI dZ ?_)
     exact dS [0,3,5,7,18,19,20,31,32,33] (k+1,ks,V) ⟨hkl,hsk (fun h=>absurd ho h)⟩ iH rfl
    ·have had':=had (y1,y2) ho rfl
     by_cases hs:(R.getD k default).o∈ks
     ·have hml:=xw (ks:=ks) (V:=V) (p:=fun _=>none) 1 hs
      have hins:ins (R.getD k default).o ks=ks:=by unfold ins;rw [if_pos hs]
      rw [hins] at had'
      repeat (first|refine ah ?_|refine aT ?_|refine iG (by rfl) bQ (by (try simp (disch:=omega) only [go_sem,reduceIte,Nat.reduceEqDiff,Nat.reduceAdd,Nat.reduceMul,hml]);try rfl) aQ (by (try simp (disch:=omega) only [go_sem,hml]);try rfl) aJ ?_|refine af ?_|refine lh (by rfl) (by rfl) lF ?_|refine aU ?_|refine jA (by rfl) aQ aJ ?_|refine ax ?_|refine ak ?_|refine ae ?_|refine aH ?_|refine yP (by rfl) aJ aO iM (by rfl) (by decide) bQ aO aQ (by (try simp (disch:=omega) only [go_sem,hml]);try rfl) aO ?_|refine bI dZ ?_|refine qH (by rfl) (by rfl) (by exact eY rfl) aJ ⟨rfl,rfl⟩ (by (try simp (disch:=omega) only [go_sem,reduceIte,Nat.reduceEqDiff,Nat.reduceAdd,Nat.reduceMul,hml]);try rfl) (by rfl) ?_)
      refine O9 (by rfl) (by rfl) (qG hs _) ?_
      repeat (first|refine ah ?_|refine iG (by rfl) bQ (by (try simp (disch:=omega) only [go_sem,reduceIte,Nat.reduceEqDiff,Nat.reduceAdd,Nat.reduceMul,hml]);try rfl) aQ (by (try simp (disch:=omega) only [go_sem,hml]);try rfl) aJ ?_|refine af ?_|refine au ?_|refine ae ?_|refine aI ?_|refine aH ?_|refine iZ (by rfl) bQ aO aQ (by decide) (by (try simp (disch:=omega) only [go_sem,reduceIte,Nat.reduceEqDiff,Nat.reduceAdd,Nat.reduceMul,hml]);try rfl) iM ?_|refine qH (by rfl) (by rfl) (by exact eY rfl) aJ ⟨rfl,rfl⟩ (by (try simp (disch:=omega) only [go_sem,reduceIte,Nat.reduceEqDiff,Nat.reduceAdd,Nat.reduceMul,hml]);try rfl) (by rfl) ?_)
      have hng:=qG (ks:=ks) (V:=V) (p:=fun _=>none) hs ⟨.int .i64,none⟩
      have hpt:=vk (V (R.getD k default).o) (.ints 2) y1 y2
      have hst:=y5 (V:=V) (y:=(y1,y2)) hs hlj.ln.nd ⟨.int .i64,none⟩
      refine qW (by rfl) aJ aJ lQ (by trivial) lQ (hng) ⟨rfl,rfl⟩ (hpt) (hst) jk ?_
      repeat (first|refine ah ?_|refine af ?_|refine bM ?_|refine ae ?_|refine gV ?_)
      exact dS [0,3,5,7,18,19,20,31,32,33] (k+1,ks,Kv V (R.getD k default).o (y1,y2)) ⟨hkl,had'⟩ iH rfl
     ·have hml:=zN (ks:=ks) (V:=V) (p:=fun _=>none) 1 hs
      have hVn:V (R.getD k default).o=[]:=Classical.byContradiction fun h=>hs ((hlj.ln.out _).1 h)
      have hnew:=O0 hs hVn
      have hs':(R.getD k default).o∈ks++[(R.getD k default).o]:=by simp
      have hml2:=xw (ks:=ks++[(R.getD k default).o]) (V:=V) (p:=fun _=>none) 1 hs'
      have hins:ins (R.getD k default).o ks=ks++[(R.getD k default).o]:=by unfold ins;rw [if_neg hs]
      rw [hins] at had'
      repeat (first|refine ah ?_|refine aT ?_|refine iG (by rfl) bQ (by (try simp (disch:=omega) only [go_sem,reduceIte,Nat.reduceEqDiff,Nat.reduceAdd,Nat.reduceMul,hml,hml2,hnew]);try rfl) aQ (by (try simp (disch:=omega) only [go_sem,hml,hml2,hnew]);try rfl) aJ ?_|refine af ?_|refine lh (by rfl) (by rfl) lF ?_|refine aU ?_|refine jA (by rfl) aQ aJ ?_|refine ax ?_|refine ak ?_|refine ae ?_|refine aH ?_|refine iZ (by rfl) bQ aO aQ (by decide) (by (try simp (disch:=omega) only [go_sem,reduceIte,Nat.reduceEqDiff,Nat.reduceAdd,Nat.reduceMul,hml,hml2,hnew]);try rfl) iM ?_|refine yP (by rfl) aJ aO iM (by rfl) (by decide) bQ aO aQ (by (try simp (disch:=omega) only [go_sem,hml,hml2,hnew]);try rfl) aO ?_|refine bI dZ ?_|refine uC dZ ?_|refine qH (by rfl) (by rfl) (by exact eY rfl) aJ ⟨rfl,rfl⟩ (by (try simp (disch:=omega) only [go_sem,reduceIte,Nat.reduceEqDiff,Nat.reduceAdd,Nat.reduceMul,hml,hml2,hnew]);try rfl) (by rfl) ?_|refine qW (by rfl) aJ aJ lQ (by trivial) lQ (by exact eY rfl) ⟨rfl,rfl⟩ (by (try simp (disch:=omega) only [go_sem,reduceIte,Nat.reduceEqDiff,Nat.reduceAdd,Nat.reduceMul,hml,hml2,hnew]);try rfl) aO jk ?_|refine Qn (by rfl) ?_)
      have hng:=qG (ks:=ks++[(R.getD k default).o]) (V:=V) (p:=fun _=>none) hs' ⟨.int .i64,none⟩
      have hpt:=vk (V (R.getD k default).o) (.ints 2) y1 y2
      have hst:=y5 (V:=V) (y:=(y1,y2)) hs' had'.ln.nd ⟨.int .i64,none⟩
      refine qW (by rfl) aJ aJ lQ (by trivial) lQ (hng) ⟨rfl,rfl⟩ (hpt) (hst) jk ?_
      repeat (first|refine ah ?_|refine af ?_|refine bM ?_|refine ae ?_|refine gV ?_)
      exact dS [0,3,5,7,18,19,20,31,32,33] (k+1,ks++[(R.getD k default).o],Kv V (R.getD k default).o (y1,y2)) ⟨hkl,had'⟩ iH rfl
  ·obtain rfl:k=R.length:=by omega
   have hd:=hlj.done hG hrow g3
   repeat (first|refine ah ?_|refine af ?_|refine aF ?_|refine bM ?_|refine bZ (by rfl) ?_|refine au ?_|refine ak ?_|refine ae ?_|refine gV ?_)
   exact dS [0,3,5,18,19,20] (i+1,ks,V) ⟨hi,hd⟩ iH rfl
 ·obtain rfl:i=S.length:=by omega
  repeat (first|refine ah ?_|refine af ?_|refine aF ?_|refine bZ (by rfl) ?_|refine au ?_|refine ak ?_|refine ae ?_|refine aK ?_|refine bK ?_)
  refine nT (Weak.norm2 [0,3,5,12,67] _) ?_
  exact DF fin al w G S u W LF hLF hW hv hw hG hGl hS hu ks V hln
end Go.Proofs.Ytlbdmpjnmfmnfaa
