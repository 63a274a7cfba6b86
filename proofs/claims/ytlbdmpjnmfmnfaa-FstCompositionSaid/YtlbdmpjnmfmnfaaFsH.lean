import Derived.Test.YtlbdmpjnmfmnfaaFsI
set_option linter.unusedSimpArgs false
set_option linter.unusedVariables false
namespace Go.Proofs.Ytlbdmpjnmfmnfaa
open Go.RowKit Go.HL Go.FS
set_option maxHeartbeats 16000000 in
theorem Ih (fin:List Bool) (al:List A) (w:List Int) (G S:List Nd) (u:List Int) (W:HV) (hW:(W=.nils/\u=[])\/(W=.sl u.length (HL.ints u)/\0<u.length)) (hv:okF fin al=true) (hw:w.length<=1024) (hG:∀x,x∈G <-> FS.Good fin al w x) (hGl:G.length<=4194304) (hS:∀x,x∈S <-> FS.At fin al w u x) (hSl:S.length<=8388608) (hu:u.length<=8388608) :
  HT Try.prog 58 [.ptr (runT w (bD (·.f) fin.length al) G) 0,.agg [W,.sl S.length (rG S)]] (fun r=>∃rows,r=.osl 2 rows.length (recs jf rows)/\rows.map (·.1)=ext fin al w u/\∀q∈rows,Row fin al w G.length q):=by
 obtain ⟨h1,h2,h3⟩:=jH hv
 have hk:qH al:=fun a ha=>by have:=fU hv ha;omega
 have hSg:∀x∈S,FS.Good fin al w x:=fun x hx=>((hS x).1 hx).good
 have hSi:∀x∈S,IK fin.length w x:=fun x hx=>rZ (fun a ha=>by have:=fU hv ha;omega) (hSg x hx)
 have hwide:=fun T=>zB fin al w G T hv hw hG hGl
 have hWf:bV [W,.sl S.length (rG S)]=true:=by rcases hW with ⟨rfl,_⟩|⟨rfl,_⟩<;>rfl
 have hfl:=gU (·.f) fin.length al
 have hrf:∀i:Nat,i<fin.length->(bD (·.f) fin.length al).getD i []=al.filter fun a=>a.f==(i:Int):=fun i hi=>jU _ _ hi
 generalize hLF:bD (·.f) fin.length al=LF at hfl hrf hwide
 refine HT.of rfl Y2 (Nat.le_of_ble_eq_true rfl) ?_
 unfold Y9
 simp only [aW,Nat.reduceAdd,runT]
 refine ah ?_
 refine ae ?_
 refine JK (fr:=0) (by rfl) (eA rfl) rfl hWf rfl ?_
 repeat (first|refine ag ?_|refine aY ?_|refine af ?_|refine aP ?_|refine ah ?_|refine ae ?_|refine aG ?_|refine bG ?_|refine aI ?_|refine sZ dZ ?_)
 refine cu [0,3,5,18,19,20] (fun s:Nat×List Int×(Int->List Nd)=>s.1<=S.length/\LN fin al w S s.1 s.2.1 s.2.2)
  (fun s=>⟨[(0,.ptr [.sl w.length (HL.ints w),.sl LF.length (dW LF),.rmap ⟨.ints 2,none⟩ (G.map pk) (jV G.length)] 0),(3,.pref 0 [] 0),(5,.mref 1 []),(18,.sl S.length (recs pC S)),(19,.int .i64 S.length),(20,.int .i64 s.1)],[(0,.optr [W,.sl S.length (rG S)]),(1,.omap ⟨.int .i64,none⟩ (mM s.2.1) (lJ s.2.1 s.2.2 fun _=>none))],2⟩)
  (fun s=>S.length - s.1) (0,[],fun _=>[]) ⟨by simp,.start⟩ rfl ?_
 rintro ⟨i,ks,V⟩ ⟨hk1,hln⟩
 simp only at hk1 hln ⊢
 by_cases hi:i<S.length
 ·have hvm:S.getD i default∈S:=by rw [List.getD_eq_getElem?_getD,List.getElem?_eq_getElem hi];exact List.getElem_mem _
  obtain ⟨g1,g2,g3,g4⟩:=hSi _ hvm
  have hrow:=hrf (S.getD i default).1.toNat (by omega)
  rw [show (((S.getD i default).1.toNat:Nat):Int)=(S.getD i default).1 by omega] at hrow
  have hrl:(LF.getD (S.getD i default).1.toNat []).length<=al.length:=by rw [hrow];exact List.length_filter_le _ _
  have hlj:=hln.begin (G:=G) (v:=S.getD i default) (R:=LF.getD (S.getD i default).1.toNat [])
  repeat (first|refine aT ?_|refine af ?_|refine az ?_|refine ak ?_|refine ah ?_|refine ae ?_|refine aG ?_|refine aA ?_|refine bI ?_|refine dJ ?_|refine bY dZ ?_)
  refine fB bK bK (fun _ _ _=>False) ?_
  repeat (first|refine ag ?_|refine aT ?_|refine bU ?_|refine aY ?_|refine af ?_|refine aP ?_|refine aG ?_|refine dD ?_|refine aI ?_|refine gq aJ rfl ?_)
  generalize hR:LF.getD (S.getD i default).1.toNat []=R at hrow hrl hlj
  refine cu [0,3,5,7,18,19,20,31,32,33] (fun s:Nat×List Int×(Int->List Nd)=>s.1<=R.length/\LJ fin al w G S i (S.getD i default) R s.1 s.2.1 s.2.2)
   (fun s=>⟨[(0,.ptr [.sl w.length (HL.ints w),.sl LF.length (dW LF),.rmap ⟨.ints 2,none⟩ (G.map pk) (jV G.length)] 0),(3,.pref 0 [] 0),(5,.mref 1 []),(7,.pref 2 [] 0),(18,.sl S.length (recs pC S)),(19,.int .i64 S.length),(20,.int .i64 i),(31,.sl R.length (recs aC R)),(32,.int .i64 R.length),(33,.int .i64 s.1)],[(0,.optr [W,.sl S.length (rG S)]),(1,.omap ⟨.int .i64,none⟩ (mM s.2.1) (lJ s.2.1 s.2.2 fun _=>none)),(2,.optr [.int .i64 (S.getD i default).1,.int .i64 (S.getD i default).2])],3⟩)
   (fun s=>R.length - s.1) (0,ks,V) ⟨by simp,hlj⟩ rfl ?_
  rintro ⟨k,ks,V⟩ ⟨hkk,hlj⟩
  simp only at hkk hlj ⊢
  by_cases hkl:k<R.length
  ·have hnx:=F5 w LF G (R.getD k default) (S.getD i default).2 g3 hw g4
   have hsk:=hlj.skip hkl
   have had:=fun y=>hlj.add hG hrow g3 hvm hkl (y:=y)
   obtain ⟨y,b,hy⟩:∃y b,iV w G (R.getD k default) (S.getD i default).2=(y,b):=⟨_,_,rfl⟩
   rw [hy] at hnx hsk had
   simp only [runT,aC] at hnx
   obtain ⟨y1,y2⟩:=y
   repeat (first|refine ag ?_|refine aT ?_|refine aY ?_|refine af ?_|refine az ?_|refine ak ?_|refine ah ?_|refine ae ?_|refine aG ?_|refine aA ?_|refine aI ?_|refine bI ?_|refine gK ?_|refine dJ ?_|refine bY dZ ?_)
   refine bZ bJ cZ (hnx) ?_
   rintro _ rfl
   simp only [pT,pC]
   refine ⟨bP,_,_,_,_,_,gV,(by decide),bH,?_⟩
   cases b with
   | false =>
    repeat (first|refine ag ?_|refine dm ?_|refine af ?_|refine aK ?_|refine bz ?_|refine iU (by rfl) aS aJ ?_|refine au ?_|refine ah ?_|refine ae ?_|refine fJ ?_|refine aA ?_|refine dJ ?_|refine bY dZ ?_)
    exact dC [0,3,5,7,18,19,20,31,32,33] (k+1,ks,V) ⟨hkl,hsk (fun _ _ h=>by simp at h)⟩ iC rfl
   | true =>
    by_cases ho:(R.getD k default).o = -1
    ·repeat (first|refine ag ?_|refine aQ ?_|refine aY ?_|refine af ?_|refine dN ?_|refine aO ?_|refine bz ?_|refine iU (by rfl) aS aJ ?_|refine au ?_|refine ah ?_|refine ae ?_|refine fJ ?_|refine aA ?_|refine aI ?_|refine dJ ?_|refine bY dZ ?_)
     exact dC [0,3,5,7,18,19,20,31,32,33] (k+1,ks,V) ⟨hkl,hsk (fun h=>absurd ho h)⟩ iC rfl
    ·have had':=had (y1,y2) ho rfl
     by_cases hs:(R.getD k default).o∈ks
     ·have hml:=xm (ks:=ks) (V:=V) (p:=fun _=>none) 1 hs
      have hins:ins (R.getD k default).o ks=ks:=by unfold ins;rw [if_pos hs]
      rw [hins] at had'
      repeat (first|refine ag ?_|refine aQ ?_|refine iw (by rfl) bT (by (try simp (disch:=omega) only [go_sem,reduceIte,Nat.reduceEqDiff,Nat.reduceAdd,Nat.reduceMul,hml]);try rfl) aS (by (try simp (disch:=omega) only [go_sem,hml]);try rfl) aJ ?_|refine af ?_|refine dN ?_|refine aO ?_|refine iU (by rfl) aS aJ ?_|refine ak ?_|refine ah ?_|refine ae ?_|refine aI ?_|refine zM (by rfl) aJ aV iO (by rfl) (by decide) bT aV aS (by (try simp (disch:=omega) only [go_sem,hml]);try rfl) aV ?_|refine bY dZ ?_|refine oJ (by rfl) (by rfl) (by exact eY rfl) aJ ⟨rfl,rfl⟩ (by (try simp (disch:=omega) only [go_sem,reduceIte,Nat.reduceEqDiff,Nat.reduceAdd,Nat.reduceMul,hml]);try rfl) (by rfl) ?_)
      refine Ou (by rfl) (by rfl) (oO hs _) ?_
      repeat (first|refine ag ?_|refine iw (by rfl) bT (by (try simp (disch:=omega) only [go_sem,reduceIte,Nat.reduceEqDiff,Nat.reduceAdd,Nat.reduceMul,hml]);try rfl) aS (by (try simp (disch:=omega) only [go_sem,hml]);try rfl) aJ ?_|refine af ?_|refine au ?_|refine ae ?_|refine aA ?_|refine aI ?_|refine iR (by rfl) bT aV aS (by decide) (by (try simp (disch:=omega) only [go_sem,reduceIte,Nat.reduceEqDiff,Nat.reduceAdd,Nat.reduceMul,hml]);try rfl) iO ?_|refine oJ (by rfl) (by rfl) (by exact eY rfl) aJ ⟨rfl,rfl⟩ (by (try simp (disch:=omega) only [go_sem,reduceIte,Nat.reduceEqDiff,Nat.reduceAdd,Nat.reduceMul,hml]);try rfl) (by rfl) ?_)
      have hng:=oO (ks:=ks) (V:=V) (p:=fun _=>none) hs ⟨.int .i64,none⟩
      have hpt:=tV (V (R.getD k default).o) (.ints 2) y1 y2
      have hst:=yE (V:=V) (y:=(y1,y2)) hs hlj.ln.nd ⟨.int .i64,none⟩
      refine o7 (by rfl) aJ aJ kS (by trivial) kS (hng) ⟨rfl,rfl⟩ (hpt) (hst) jA ?_
      repeat (first|refine ag ?_|refine af ?_|refine bz ?_|refine ae ?_|refine fJ ?_)
      exact dC [0,3,5,7,18,19,20,31,32,33] (k+1,ks,KR V (R.getD k default).o (y1,y2)) ⟨hkl,had'⟩ iC rfl
     ·have hml:=xX (ks:=ks) (V:=V) (p:=fun _=>none) 1 hs
      have hVn:V (R.getD k default).o=[]:=Classical.byContradiction fun h=>hs ((hlj.ln.out _).1 h)
      have hnew:=NS hs hVn
      have hs':(R.getD k default).o∈ks++[(R.getD k default).o]:=by simp
      have hml2:=xm (ks:=ks++[(R.getD k default).o]) (V:=V) (p:=fun _=>none) 1 hs'
      have hins:ins (R.getD k default).o ks=ks++[(R.getD k default).o]:=by unfold ins;rw [if_neg hs]
      rw [hins] at had'
      repeat (first|refine ag ?_|refine aQ ?_|refine iw (by rfl) bT (by (try simp (disch:=omega) only [go_sem,reduceIte,Nat.reduceEqDiff,Nat.reduceAdd,Nat.reduceMul,hml,hml2,hnew]);try rfl) aS (by (try simp (disch:=omega) only [go_sem,hml,hml2,hnew]);try rfl) aJ ?_|refine af ?_|refine dN ?_|refine aO ?_|refine iU (by rfl) aS aJ ?_|refine ak ?_|refine ah ?_|refine ae ?_|refine aI ?_|refine iR (by rfl) bT aV aS (by decide) (by (try simp (disch:=omega) only [go_sem,reduceIte,Nat.reduceEqDiff,Nat.reduceAdd,Nat.reduceMul,hml,hml2,hnew]);try rfl) iO ?_|refine zM (by rfl) aJ aV iO (by rfl) (by decide) bT aV aS (by (try simp (disch:=omega) only [go_sem,hml,hml2,hnew]);try rfl) aV ?_|refine bY dZ ?_|refine sZ dZ ?_|refine oJ (by rfl) (by rfl) (by exact eY rfl) aJ ⟨rfl,rfl⟩ (by (try simp (disch:=omega) only [go_sem,reduceIte,Nat.reduceEqDiff,Nat.reduceAdd,Nat.reduceMul,hml,hml2,hnew]);try rfl) (by rfl) ?_|refine o7 (by rfl) aJ aJ kS (by trivial) kS (by exact eY rfl) ⟨rfl,rfl⟩ (by (try simp (disch:=omega) only [go_sem,reduceIte,Nat.reduceEqDiff,Nat.reduceAdd,Nat.reduceMul,hml,hml2,hnew]);try rfl) aV jA ?_|refine NI (by rfl) ?_)
      have hng:=oO (ks:=ks++[(R.getD k default).o]) (V:=V) (p:=fun _=>none) hs' ⟨.int .i64,none⟩
      have hpt:=tV (V (R.getD k default).o) (.ints 2) y1 y2
      have hst:=yE (V:=V) (y:=(y1,y2)) hs' had'.ln.nd ⟨.int .i64,none⟩
      refine o7 (by rfl) aJ aJ kS (by trivial) kS (hng) ⟨rfl,rfl⟩ (hpt) (hst) jA ?_
      repeat (first|refine ag ?_|refine af ?_|refine bz ?_|refine ae ?_|refine fJ ?_)
      exact dC [0,3,5,7,18,19,20,31,32,33] (k+1,ks++[(R.getD k default).o],KR V (R.getD k default).o (y1,y2)) ⟨hkl,had'⟩ iC rfl
  ·obtain rfl:k=R.length:=by omega
   have hd:=hlj.done hG hrow g3
   repeat (first|refine ag ?_|refine af ?_|refine az ?_|refine bz ?_|refine bF (by rfl) ?_|refine au ?_|refine ah ?_|refine ae ?_|refine fJ ?_)
   exact dC [0,3,5,18,19,20] (i+1,ks,V) ⟨hi,hd⟩ iC rfl
 ·obtain rfl:i=S.length:=by omega
  repeat (first|refine ag ?_|refine af ?_|refine az ?_|refine bF (by rfl) ?_|refine au ?_|refine ah ?_|refine ae ?_|refine aG ?_|refine bG ?_)
  refine kY (Weak.norm2 [0,3,5,12,67] _) ?_
  exact Di fin al w G S u W LF hLF hW hv hw hG hGl hS hu ks V hln
end Go.Proofs.Ytlbdmpjnmfmnfaa
