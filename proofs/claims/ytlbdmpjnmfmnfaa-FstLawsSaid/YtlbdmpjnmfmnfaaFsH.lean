import Derived.Test.YtlbdmpjnmfmnfaaFsI
set_option linter.unusedSimpArgs false
set_option linter.unusedVariables false
namespace Go.Proofs.Ytlbdmpjnmfmnfaa
open Go.RowKit Go.HL Go.FS
set_option maxHeartbeats 16000000 in
theorem Kz (fin:List Bool) (al:List A) (w:List Int) (G S:List Nd) (u:List Int) (W:HV) (hW:(W=.nils/\u=[])\/(W=.sl u.length (HL.ints u)/\0<u.length)) (hv:okF fin al=true) (hw:w.length<=1024) (hG:∀x,x∈G <-> FS.Good fin al w x) (hGl:G.length<=4194304) (hS:∀x,x∈S <-> FS.At fin al w u x) (hSl:S.length<=8388608) (hu:u.length<=8388608) :
  HT Try.prog 58 [.ptr (runT w (bT (·.f) fin.length al) G) 0,.agg [W,.sl S.length (uV S)]] (fun r=>∃rows,r=.osl 2 rows.length (recs kE rows)/\rows.map (·.1)=ext fin al w u/\∀q∈rows,Row fin al w G.length q):=by
 obtain ⟨h1,h2,h3⟩:=dR hv
 have hk:uN al:=fun a ha=>by have:=dh hv ha;omega
 have hSg:∀x∈S,FS.Good fin al w x:=fun x hx=>((hS x).1 hx).good
 have hSi:∀x∈S,Na fin.length w x:=fun x hx=>wB (fun a ha=>by have:=dh hv ha;omega) (hSg x hx)
 have hwide:=fun T=>CQ fin al w G T hv hw hG hGl
 have hWf:cZ [W,.sl S.length (uV S)]=true:=by rcases hW with ⟨rfl,_⟩|⟨rfl,_⟩<;>rfl
 have hfl:=iY (·.f) fin.length al
 have hrf:∀i:Nat,i<fin.length->(bT (·.f) fin.length al).getD i []=al.filter fun a=>a.f==(i:Int):=fun i hi=>lu _ _ hi
 generalize hLF:bT (·.f) fin.length al=LF at hfl hrf hwide
 refine HT.of rfl aej (Nat.le_of_ble_eq_true rfl) ?_
 unfold c58
 simp only [aY,Nat.reduceAdd,runT]
 refine ak ?_
 refine ae ?_
 refine NH (fr:=0) (by rfl) (eA rfl) rfl hWf rfl ?_
 repeat (first|refine ah ?_|refine aZ ?_|refine af ?_|refine aQ ?_|refine ak ?_|refine ae ?_|refine aB ?_|refine bU ?_|refine aI ?_|refine vJ eH ?_)
 refine cu [0,3,5,18,19,20] (fun s:Nat×List Int×(Int->List Nd)=>s.1<=S.length/\LN fin al w S s.1 s.2.1 s.2.2)
  (fun s=>⟨[(0,.ptr [.sl w.length (HL.ints w),.sl LF.length (fO LF),.rmap ⟨.ints 2,none⟩ (G.map pk) (lX G.length)] 0),(3,.pref 0 [] 0),(5,.mref 1 []),(18,.sl S.length (recs pC S)),(19,.int .i64 S.length),(20,.int .i64 s.1)],[(0,.optr [W,.sl S.length (uV S)]),(1,.omap ⟨.int .i64,none⟩ (pq s.2.1) (nV s.2.1 s.2.2 fun _=>none))],2⟩)
  (fun s=>S.length - s.1) (0,[],fun _=>[]) ⟨by simp,.start⟩ rfl ?_
 rintro ⟨i,ks,V⟩ ⟨hk1,hln⟩
 simp only at hk1 hln ⊢
 by_cases hi:i<S.length
 ·have hvm:S.getD i default∈S:=by rw [List.getD_eq_getElem?_getD,List.getElem?_eq_getElem hi];exact List.getElem_mem _
  obtain ⟨g1,g2,g3,g4⟩:=hSi _ hvm
  have hrow:=hrf (S.getD i default).1.toNat (by omega)
  rw [show (((S.getD i default).1.toNat:Nat):Int)=(S.getD i default).1 by omega] at hrow
  have hrl:(LF.getD (S.getD i default).1.toNat []).length<=al.length:=by rw [hrow];exact List.length_filter_le _ _
  have hlj:=hln.begin (G:=G) (v:=S.getD i default) (R:=LF.getD (S.getD i default).1.toNat [])
  repeat (first|refine aU ?_|refine af ?_|refine az ?_|refine ax ?_|refine ak ?_|refine ae ?_|refine aB ?_|refine aF ?_|refine bn ?_|refine dK ?_|refine bP eH ?_)
  refine gu aT aT (fun _ _ _=>False) ?_
  repeat (first|refine ah ?_|refine aU ?_|refine bZ ?_|refine aZ ?_|refine af ?_|refine aQ ?_|refine aB ?_|refine dE ?_|refine aI ?_|refine iE aV rfl ?_)
  generalize hR:LF.getD (S.getD i default).1.toNat []=R at hrow hrl hlj
  refine cu [0,3,5,7,18,19,20,31,32,33] (fun s:Nat×List Int×(Int->List Nd)=>s.1<=R.length/\LJ fin al w G S i (S.getD i default) R s.1 s.2.1 s.2.2)
   (fun s=>⟨[(0,.ptr [.sl w.length (HL.ints w),.sl LF.length (fO LF),.rmap ⟨.ints 2,none⟩ (G.map pk) (lX G.length)] 0),(3,.pref 0 [] 0),(5,.mref 1 []),(7,.pref 2 [] 0),(18,.sl S.length (recs pC S)),(19,.int .i64 S.length),(20,.int .i64 i),(31,.sl R.length (recs aC R)),(32,.int .i64 R.length),(33,.int .i64 s.1)],[(0,.optr [W,.sl S.length (uV S)]),(1,.omap ⟨.int .i64,none⟩ (pq s.2.1) (nV s.2.1 s.2.2 fun _=>none)),(2,.optr [.int .i64 (S.getD i default).1,.int .i64 (S.getD i default).2])],3⟩)
   (fun s=>R.length - s.1) (0,ks,V) ⟨by simp,hlj⟩ rfl ?_
  rintro ⟨k,ks,V⟩ ⟨hkk,hlj⟩
  simp only at hkk hlj ⊢
  by_cases hkl:k<R.length
  ·have hnx:=Jw w LF G (R.getD k default) (S.getD i default).2 g3 hw g4
   have hsk:=hlj.skip hkl
   have had:=fun y=>hlj.add hG hrow g3 hvm hkl (y:=y)
   obtain ⟨y,b,hy⟩:∃y b,jI w G (R.getD k default) (S.getD i default).2=(y,b):=⟨_,_,rfl⟩
   rw [hy] at hnx hsk had
   simp only [runT,aC] at hnx
   obtain ⟨y1,y2⟩:=y
   repeat (first|refine ah ?_|refine aU ?_|refine aZ ?_|refine af ?_|refine az ?_|refine ax ?_|refine ak ?_|refine ae ?_|refine aB ?_|refine aF ?_|refine aI ?_|refine bn ?_|refine fJ ?_|refine dK ?_|refine bP eH ?_)
   refine bY bz bW (hnx) ?_
   rintro _ rfl
   simp only [pT,pC]
   refine ⟨bG,_,_,_,_,_,fU,(by decide),bu,?_⟩
   cases b with
   | false =>
    repeat (first|refine ah ?_|refine dH ?_|refine af ?_|refine aO ?_|refine bH ?_|refine dJ ?_|refine au ?_|refine ak ?_|refine ae ?_|refine fK ?_|refine aF ?_|refine dK ?_|refine bP eH ?_)
    exact dB [0,3,5,7,18,19,20,31,32,33] (k+1,ks,V) ⟨hkl,hsk (fun _ _ h=>by simp at h)⟩ jh rfl
   | true =>
    by_cases ho:(R.getD k default).o = -1
    ·repeat (first|refine ah ?_|refine aK ?_|refine aZ ?_|refine af ?_|refine fA ?_|refine aS ?_|refine bH ?_|refine dJ ?_|refine au ?_|refine ak ?_|refine ae ?_|refine fK ?_|refine aF ?_|refine aI ?_|refine dK ?_|refine bP eH ?_)
     exact dB [0,3,5,7,18,19,20,31,32,33] (k+1,ks,V) ⟨hkl,hsk (fun h=>absurd ho h)⟩ jh rfl
    ·have had':=had (y1,y2) ho rfl
     by_cases hs:(R.getD k default).o∈ks
     ·have hml:=yJ (ks:=ks) (V:=V) (p:=fun _=>none) 1 hs
      have hins:ins (R.getD k default).o ks=ks:=by unfold ins;rw [if_pos hs]
      rw [hins] at had'
      repeat (first|refine ah ?_|refine aK ?_|refine gJ (by rfl) bV (by (try simp (disch:=omega) only [go_sem,reduceIte,Nat.reduceEqDiff,Nat.reduceAdd,Nat.reduceMul,hml]);try rfl) aW (by (try simp (disch:=omega) only [go_sem,hml]);try rfl) aV ?_|refine af ?_|refine fA ?_|refine aS ?_|refine dJ ?_|refine ax ?_|refine ak ?_|refine ae ?_|refine aI ?_|refine uy (by rfl) aV aP ja (by rfl) (by decide) bV aP aW (by (try simp (disch:=omega) only [go_sem,hml]);try rfl) aP ?_|refine bP eH ?_|refine qI (by rfl) (by rfl) (by exact eY rfl) aV ⟨rfl,rfl⟩ (by (try simp (disch:=omega) only [go_sem,reduceIte,Nat.reduceEqDiff,Nat.reduceAdd,Nat.reduceMul,hml]);try rfl) (by rfl) ?_)
      refine TA (by rfl) (by rfl) (sF hs _) ?_
      repeat (first|refine ah ?_|refine gJ (by rfl) bV (by (try simp (disch:=omega) only [go_sem,reduceIte,Nat.reduceEqDiff,Nat.reduceAdd,Nat.reduceMul,hml]);try rfl) aW (by (try simp (disch:=omega) only [go_sem,hml]);try rfl) aV ?_|refine af ?_|refine au ?_|refine ae ?_|refine aF ?_|refine aI ?_|refine jF (by rfl) bV aP aW (by decide) (by (try simp (disch:=omega) only [go_sem,reduceIte,Nat.reduceEqDiff,Nat.reduceAdd,Nat.reduceMul,hml]);try rfl) ja ?_|refine qI (by rfl) (by rfl) (by exact eY rfl) aV ⟨rfl,rfl⟩ (by (try simp (disch:=omega) only [go_sem,reduceIte,Nat.reduceEqDiff,Nat.reduceAdd,Nat.reduceMul,hml]);try rfl) (by rfl) ?_)
      have hng:=sF (ks:=ks) (V:=V) (p:=fun _=>none) hs ⟨.int .i64,none⟩
      have hpt:=xe (V (R.getD k default).o) (.ints 2) y1 y2
      have hst:=Bh (V:=V) (y:=(y1,y2)) hs hlj.ln.nd ⟨.int .i64,none⟩
      refine qR (by rfl) aV aV mJ (by trivial) mJ (hng) ⟨rfl,rfl⟩ (hpt) (hst) jM ?_
      repeat (first|refine ah ?_|refine af ?_|refine bH ?_|refine ae ?_|refine fK ?_)
      exact dB [0,3,5,7,18,19,20,31,32,33] (k+1,ks,PT V (R.getD k default).o (y1,y2)) ⟨hkl,had'⟩ jh rfl
     ·have hml:=BB (ks:=ks) (V:=V) (p:=fun _=>none) 1 hs
      have hVn:V (R.getD k default).o=[]:=Classical.byContradiction fun h=>hs ((hlj.ln.out _).1 h)
      have hnew:=QO hs hVn
      have hs':(R.getD k default).o∈ks++[(R.getD k default).o]:=by simp
      have hml2:=yJ (ks:=ks++[(R.getD k default).o]) (V:=V) (p:=fun _=>none) 1 hs'
      have hins:ins (R.getD k default).o ks=ks++[(R.getD k default).o]:=by unfold ins;rw [if_neg hs]
      rw [hins] at had'
      repeat (first|refine ah ?_|refine aK ?_|refine gJ (by rfl) bV (by (try simp (disch:=omega) only [go_sem,reduceIte,Nat.reduceEqDiff,Nat.reduceAdd,Nat.reduceMul,hml,hml2,hnew]);try rfl) aW (by (try simp (disch:=omega) only [go_sem,hml,hml2,hnew]);try rfl) aV ?_|refine af ?_|refine fA ?_|refine aS ?_|refine dJ ?_|refine ax ?_|refine ak ?_|refine ae ?_|refine aI ?_|refine jF (by rfl) bV aP aW (by decide) (by (try simp (disch:=omega) only [go_sem,reduceIte,Nat.reduceEqDiff,Nat.reduceAdd,Nat.reduceMul,hml,hml2,hnew]);try rfl) ja ?_|refine uy (by rfl) aV aP ja (by rfl) (by decide) bV aP aW (by (try simp (disch:=omega) only [go_sem,hml,hml2,hnew]);try rfl) aP ?_|refine bP eH ?_|refine vJ eH ?_|refine qI (by rfl) (by rfl) (by exact eY rfl) aV ⟨rfl,rfl⟩ (by (try simp (disch:=omega) only [go_sem,reduceIte,Nat.reduceEqDiff,Nat.reduceAdd,Nat.reduceMul,hml,hml2,hnew]);try rfl) (by rfl) ?_|refine qR (by rfl) aV aV mJ (by trivial) mJ (by exact eY rfl) ⟨rfl,rfl⟩ (by (try simp (disch:=omega) only [go_sem,reduceIte,Nat.reduceEqDiff,Nat.reduceAdd,Nat.reduceMul,hml,hml2,hnew]);try rfl) aP jM ?_|refine RQ (by rfl) ?_)
      have hng:=sF (ks:=ks++[(R.getD k default).o]) (V:=V) (p:=fun _=>none) hs' ⟨.int .i64,none⟩
      have hpt:=xe (V (R.getD k default).o) (.ints 2) y1 y2
      have hst:=Bh (V:=V) (y:=(y1,y2)) hs' had'.ln.nd ⟨.int .i64,none⟩
      refine qR (by rfl) aV aV mJ (by trivial) mJ (hng) ⟨rfl,rfl⟩ (hpt) (hst) jM ?_
      repeat (first|refine ah ?_|refine af ?_|refine bH ?_|refine ae ?_|refine fK ?_)
      exact dB [0,3,5,7,18,19,20,31,32,33] (k+1,ks++[(R.getD k default).o],PT V (R.getD k default).o (y1,y2)) ⟨hkl,had'⟩ jh rfl
  ·obtain rfl:k=R.length:=by omega
   have hd:=hlj.done hG hrow g3
   repeat (first|refine ah ?_|refine af ?_|refine az ?_|refine bH ?_|refine bK (by rfl) ?_|refine au ?_|refine ak ?_|refine ae ?_|refine fK ?_)
   exact dB [0,3,5,18,19,20] (i+1,ks,V) ⟨hi,hd⟩ jh rfl
 ·obtain rfl:i=S.length:=by omega
  repeat (first|refine ah ?_|refine af ?_|refine az ?_|refine bK (by rfl) ?_|refine au ?_|refine ak ?_|refine ae ?_|refine aB ?_|refine bU ?_)
  refine mZ (Weak.norm2 [0,3,5,12,67] _) ?_
  exact FM fin al w G S u W LF hLF hW hv hw hG hGl hS hu ks V hln
end Go.Proofs.Ytlbdmpjnmfmnfaa
