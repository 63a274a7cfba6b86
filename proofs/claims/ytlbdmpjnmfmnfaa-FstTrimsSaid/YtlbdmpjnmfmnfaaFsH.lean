import Derived.Test.YtlbdmpjnmfmnfaaFsI
set_option linter.unusedSimpArgs false
set_option linter.unusedVariables false
namespace Go.Proofs.Ytlbdmpjnmfmnfaa
open Go.RowKit Go.HL Go.FS
set_option maxHeartbeats 16000000 in
theorem GV (fin:List Bool) (al:List A) (w:List Int) (G S:List Nd) (u:List Int) (W:HV) (hW:(W=.nils/\u=[])\/(W=.sl u.length (HL.ints u)/\0<u.length)) (hv:okF fin al=true) (hw:w.length<=1024) (hG:∀x,x∈G <-> FS.Good fin al w x) (hGl:G.length<=4194304) (hS:∀x,x∈S <-> FS.At fin al w u x) (hSl:S.length<=8388608) (hu:u.length<=8388608) :
  HT Try.prog 58 [.ptr (runT w (bM (·.f) fin.length al) G) 0,.agg [W,.sl S.length (su S)]] (fun r=>∃rows,r=.osl 2 rows.length (recs jM rows)/\rows.map (·.1)=ext fin al w u/\∀q∈rows,Row fin al w G.length q):=by
 obtain ⟨h1,h2,h3⟩:=jf hv
 have hk:vT al:=fun a ha=>by have:=eU hv ha;omega
 have hSg:∀x∈S,FS.Good fin al w x:=fun x hx=>((hS x).1 hx).good
 have hSi:∀x∈S,IW fin.length w x:=fun x hx=>vN (fun a ha=>by have:=eU hv ha;omega) (hSg x hx)
 have hwide:=fun T=>zS fin al w G T hv hw hG hGl
 have hWf:cO [W,.sl S.length (su S)]=true:=by rcases hW with ⟨rfl,_⟩|⟨rfl,_⟩<;>rfl
 have hfl:=iL (·.f) fin.length al
 have hrf:∀i:Nat,i<fin.length->(bM (·.f) fin.length al).getD i []=al.filter fun a=>a.f==(i:Int):=fun i hi=>kR _ _ hi
 generalize hLF:bM (·.f) fin.length al=LF at hfl hrf hwide
 refine HT.of rfl ZT (Nat.le_of_ble_eq_true rfl) ?_
 unfold c58
 simp only [aW,Nat.reduceAdd,runT]
 refine au ?_
 refine ae ?_
 refine KW (fr:=0) (by rfl) (eA rfl) rfl hWf rfl ?_
 repeat (first|refine ah ?_|refine aU ?_|refine af ?_|refine aI ?_|refine au ?_|refine ae ?_|refine aA ?_|refine bT ?_|refine aB ?_|refine ug dS ?_)
 refine bW [0,3,5,18,19,20] (fun s:Nat×List Int×(Int->List Nd)=>s.1<=S.length/\LN fin al w S s.1 s.2.1 s.2.2)
  (fun s=>⟨[(0,.ptr [.sl w.length (HL.ints w),.sl LF.length (fD LF),.rmap ⟨.ints 2,none⟩ (G.map pk) (lg G.length)] 0),(3,.pref 0 [] 0),(5,.mref 1 []),(18,.sl S.length (recs pC S)),(19,.int .i64 S.length),(20,.int .i64 s.1)],[(0,.optr [W,.sl S.length (su S)]),(1,.omap ⟨.int .i64,none⟩ (nO s.2.1) (mP s.2.1 s.2.2 fun _=>none))],2⟩)
  (fun s=>S.length - s.1) (0,[],fun _=>[]) ⟨by simp,.start⟩ rfl ?_
 rintro ⟨i,ks,V⟩ ⟨hk1,hln⟩
 simp only at hk1 hln ⊢
 by_cases hi:i<S.length
 ·have hvm:S.getD i default∈S:=by rw [List.getD_eq_getElem?_getD,List.getElem?_eq_getElem hi];exact List.getElem_mem _
  obtain ⟨g1,g2,g3,g4⟩:=hSi _ hvm
  have hrow:=hrf (S.getD i default).1.toNat (by omega)
  rw [show (((S.getD i default).1.toNat:Nat):Int)=(S.getD i default).1 by omega] at hrow
  have hrl:(LF.getD (S.getD i default).1.toNat []).length<=al.length:=by rw [hrow];exact List.length_filter_le _ _
  have hlj:=hln.begin (G:=G) (v:=S.getD i default) (R:=LF.getD (S.getD i default).1.toNat [])
  repeat (first|refine aO ?_|refine af ?_|refine az ?_|refine ak ?_|refine au ?_|refine ae ?_|refine aA ?_|refine aF ?_|refine aZ ?_|refine cZ ?_|refine bG dS ?_)
  refine dV aY aY (fun _ _ _=>False) ?_
  repeat (first|refine ah ?_|refine aO ?_|refine di ?_|refine aU ?_|refine af ?_|refine aI ?_|refine aA ?_|refine aX ?_|refine aB ?_|refine iC aJ rfl ?_)
  generalize hR:LF.getD (S.getD i default).1.toNat []=R at hrow hrl hlj
  refine bW [0,3,5,7,18,19,20,31,32,33] (fun s:Nat×List Int×(Int->List Nd)=>s.1<=R.length/\LJ fin al w G S i (S.getD i default) R s.1 s.2.1 s.2.2)
   (fun s=>⟨[(0,.ptr [.sl w.length (HL.ints w),.sl LF.length (fD LF),.rmap ⟨.ints 2,none⟩ (G.map pk) (lg G.length)] 0),(3,.pref 0 [] 0),(5,.mref 1 []),(7,.pref 2 [] 0),(18,.sl S.length (recs pC S)),(19,.int .i64 S.length),(20,.int .i64 i),(31,.sl R.length (recs aC R)),(32,.int .i64 R.length),(33,.int .i64 s.1)],[(0,.optr [W,.sl S.length (su S)]),(1,.omap ⟨.int .i64,none⟩ (nO s.2.1) (mP s.2.1 s.2.2 fun _=>none)),(2,.optr [.int .i64 (S.getD i default).1,.int .i64 (S.getD i default).2])],3⟩)
   (fun s=>R.length - s.1) (0,ks,V) ⟨by simp,hlj⟩ rfl ?_
  rintro ⟨k,ks,V⟩ ⟨hkk,hlj⟩
  simp only at hkk hlj ⊢
  by_cases hkl:k<R.length
  ·have hnx:=Gh w LF G (R.getD k default) (S.getD i default).2 g3 hw g4
   have hsk:=hlj.skip hkl
   have had:=fun y=>hlj.add hG hrow g3 hvm hkl (y:=y)
   obtain ⟨y,b,hy⟩:∃y b,jA w G (R.getD k default) (S.getD i default).2=(y,b):=⟨_,_,rfl⟩
   rw [hy] at hnx hsk had
   simp only [runT,aC] at hnx
   obtain ⟨y1,y2⟩:=y
   repeat (first|refine ah ?_|refine aO ?_|refine aU ?_|refine af ?_|refine az ?_|refine ak ?_|refine au ?_|refine ae ?_|refine aA ?_|refine aF ?_|refine aB ?_|refine aZ ?_|refine fZ ?_|refine cZ ?_|refine bG dS ?_)
   refine dG bK dh (hnx) ?_
   rintro _ rfl
   simp only [pT,pC]
   refine ⟨bP,_,_,_,_,_,gU,(by decide),bJ,?_⟩
   cases b with
   | false =>
    repeat (first|refine ah ?_|refine dn ?_|refine af ?_|refine aP ?_|refine bY ?_|refine jV (by rfl) aG aJ ?_|refine ax ?_|refine au ?_|refine ae ?_|refine dL ?_|refine aF ?_|refine cZ ?_|refine bG dS ?_)
    exact dm [0,3,5,7,18,19,20,31,32,33] (k+1,ks,V) ⟨hkl,hsk (fun _ _ h=>by simp at h)⟩ iP rfl
   | true =>
    by_cases ho:(R.getD k default).o = -1
    ·repeat (first|refine ah ?_|refine aN ?_|refine aU ?_|refine af ?_|refine kM (by rfl) (by rfl) kQ ?_|refine aV ?_|refine bY ?_|refine jV (by rfl) aG aJ ?_|refine ax ?_|refine au ?_|refine ae ?_|refine dL ?_|refine aF ?_|refine aB ?_|refine cZ ?_|refine bG dS ?_)
     exact dm [0,3,5,7,18,19,20,31,32,33] (k+1,ks,V) ⟨hkl,hsk (fun h=>absurd ho h)⟩ iP rfl
    ·have had':=had (y1,y2) ho rfl
     by_cases hs:(R.getD k default).o∈ks
     ·have hml:=wE (ks:=ks) (V:=V) (p:=fun _=>none) 1 hs
      have hins:ins (R.getD k default).o ks=ks:=by unfold ins;rw [if_pos hs]
      rw [hins] at had'
      repeat (first|refine ah ?_|refine aN ?_|refine dU (by rfl) bn (by (try simp (disch:=omega) only [go_sem,reduceIte,Nat.reduceEqDiff,Nat.reduceAdd,Nat.reduceMul,hml]);try rfl) aG (by (try simp (disch:=omega) only [go_sem,hml]);try rfl) aJ ?_|refine af ?_|refine kM (by rfl) (by rfl) kQ ?_|refine aV ?_|refine jV (by rfl) aG aJ ?_|refine ak ?_|refine au ?_|refine ae ?_|refine aB ?_|refine l9 (by rfl) aJ aK gy (by rfl) (by decide) bn aK aG (by (try simp (disch:=omega) only [go_sem,hml]);try rfl) aK ?_|refine bG dS ?_|refine qF (by rfl) (by rfl) (by exact eY rfl) aJ ⟨rfl,rfl⟩ (by (try simp (disch:=omega) only [go_sem,reduceIte,Nat.reduceEqDiff,Nat.reduceAdd,Nat.reduceMul,hml]);try rfl) (by rfl) ?_)
      refine N9 (by rfl) (by rfl) (pJ hs _) ?_
      repeat (first|refine ah ?_|refine dU (by rfl) bn (by (try simp (disch:=omega) only [go_sem,reduceIte,Nat.reduceEqDiff,Nat.reduceAdd,Nat.reduceMul,hml]);try rfl) aG (by (try simp (disch:=omega) only [go_sem,hml]);try rfl) aJ ?_|refine af ?_|refine ax ?_|refine ae ?_|refine aF ?_|refine aB ?_|refine jo (by rfl) bn aK aG (by decide) (by (try simp (disch:=omega) only [go_sem,reduceIte,Nat.reduceEqDiff,Nat.reduceAdd,Nat.reduceMul,hml]);try rfl) gy ?_|refine qF (by rfl) (by rfl) (by exact eY rfl) aJ ⟨rfl,rfl⟩ (by (try simp (disch:=omega) only [go_sem,reduceIte,Nat.reduceEqDiff,Nat.reduceAdd,Nat.reduceMul,hml]);try rfl) (by rfl) ?_)
      have hng:=pJ (ks:=ks) (V:=V) (p:=fun _=>none) hs ⟨.int .i64,none⟩
      have hpt:=uJ (V (R.getD k default).o) (.ints 2) y1 y2
      have hst:=yO (V:=V) (y:=(y1,y2)) hs hlj.ln.nd ⟨.int .i64,none⟩
      refine pW (by rfl) aJ aJ lN (by trivial) lN (hng) ⟨rfl,rfl⟩ (hpt) (hst) jc ?_
      repeat (first|refine ah ?_|refine af ?_|refine bY ?_|refine ae ?_|refine dL ?_)
      exact dm [0,3,5,7,18,19,20,31,32,33] (k+1,ks,KY V (R.getD k default).o (y1,y2)) ⟨hkl,had'⟩ iP rfl
     ·have hml:=yx (ks:=ks) (V:=V) (p:=fun _=>none) 1 hs
      have hVn:V (R.getD k default).o=[]:=Classical.byContradiction fun h=>hs ((hlj.ln.out _).1 h)
      have hnew:=MF hs hVn
      have hs':(R.getD k default).o∈ks++[(R.getD k default).o]:=by simp
      have hml2:=wE (ks:=ks++[(R.getD k default).o]) (V:=V) (p:=fun _=>none) 1 hs'
      have hins:ins (R.getD k default).o ks=ks++[(R.getD k default).o]:=by unfold ins;rw [if_neg hs]
      rw [hins] at had'
      repeat (first|refine ah ?_|refine aN ?_|refine dU (by rfl) bn (by (try simp (disch:=omega) only [go_sem,reduceIte,Nat.reduceEqDiff,Nat.reduceAdd,Nat.reduceMul,hml,hml2,hnew]);try rfl) aG (by (try simp (disch:=omega) only [go_sem,hml,hml2,hnew]);try rfl) aJ ?_|refine af ?_|refine kM (by rfl) (by rfl) kQ ?_|refine aV ?_|refine jV (by rfl) aG aJ ?_|refine ak ?_|refine au ?_|refine ae ?_|refine aB ?_|refine jo (by rfl) bn aK aG (by decide) (by (try simp (disch:=omega) only [go_sem,reduceIte,Nat.reduceEqDiff,Nat.reduceAdd,Nat.reduceMul,hml,hml2,hnew]);try rfl) gy ?_|refine l9 (by rfl) aJ aK gy (by rfl) (by decide) bn aK aG (by (try simp (disch:=omega) only [go_sem,hml,hml2,hnew]);try rfl) aK ?_|refine bG dS ?_|refine ug dS ?_|refine qF (by rfl) (by rfl) (by exact eY rfl) aJ ⟨rfl,rfl⟩ (by (try simp (disch:=omega) only [go_sem,reduceIte,Nat.reduceEqDiff,Nat.reduceAdd,Nat.reduceMul,hml,hml2,hnew]);try rfl) (by rfl) ?_|refine pW (by rfl) aJ aJ lN (by trivial) lN (by exact eY rfl) ⟨rfl,rfl⟩ (by (try simp (disch:=omega) only [go_sem,reduceIte,Nat.reduceEqDiff,Nat.reduceAdd,Nat.reduceMul,hml,hml2,hnew]);try rfl) aK jc ?_|refine N7 (by rfl) ?_)
      have hng:=pJ (ks:=ks++[(R.getD k default).o]) (V:=V) (p:=fun _=>none) hs' ⟨.int .i64,none⟩
      have hpt:=uJ (V (R.getD k default).o) (.ints 2) y1 y2
      have hst:=yO (V:=V) (y:=(y1,y2)) hs' had'.ln.nd ⟨.int .i64,none⟩
      refine pW (by rfl) aJ aJ lN (by trivial) lN (hng) ⟨rfl,rfl⟩ (hpt) (hst) jc ?_
      repeat (first|refine ah ?_|refine af ?_|refine bY ?_|refine ae ?_|refine dL ?_)
      exact dm [0,3,5,7,18,19,20,31,32,33] (k+1,ks++[(R.getD k default).o],KY V (R.getD k default).o (y1,y2)) ⟨hkl,had'⟩ iP rfl
  ·obtain rfl:k=R.length:=by omega
   have hd:=hlj.done hG hrow g3
   repeat (first|refine ah ?_|refine af ?_|refine az ?_|refine bY ?_|refine bQ (by rfl) ?_|refine ax ?_|refine au ?_|refine ae ?_|refine dL ?_)
   exact dm [0,3,5,18,19,20] (i+1,ks,V) ⟨hi,hd⟩ iP rfl
 ·obtain rfl:i=S.length:=by omega
  repeat (first|refine ah ?_|refine af ?_|refine az ?_|refine bQ (by rfl) ?_|refine ax ?_|refine au ?_|refine ae ?_|refine aA ?_|refine bT ?_)
  refine lm (Weak.norm2 [0,3,5,12,67] _) ?_
  exact CO fin al w G S u W LF hLF hW hv hw hG hGl hS hu ks V hln
end Go.Proofs.Ytlbdmpjnmfmnfaa
