import Derived.Test.YtlbdmpjnmfmnfaaFsI
set_option linter.unusedSimpArgs false
set_option linter.unusedVariables false
namespace Go.Proofs.Ytlbdmpjnmfmnfaa
open Go.RowKit Go.HL Go.FS
set_option maxHeartbeats 16000000 in
theorem Hr (fin:List Bool) (al:List A) (w:List Int) (G S:List Nd) (u:List Int) (W:HV) (hW:(W=.nils/\u=[])\/(W=.sl u.length (HL.ints u)/\0<u.length)) (hv:okF fin al=true) (hw:w.length<=1024) (hG:∀x,x∈G <-> FS.Good fin al w x) (hGl:G.length<=4194304) (hS:∀x,x∈S <-> FS.At fin al w u x) (hSl:S.length<=8388608) (hu:u.length<=8388608) :
  HT Try.prog 58 [.ptr (runT w (bz (·.f) fin.length al) G) 0,.agg [W,.sl S.length (qX S)]] (fun r=>∃rows,r=.osl 2 rows.length (recs ja rows)/\rows.map (·.1)=ext fin al w u/\∀q∈rows,Row fin al w G.length q):=by
 obtain ⟨h1,h2,h3⟩:=jZ hv
 have hk:uz al:=fun a ha=>by have:=gJ hv ha;omega
 have hSg:∀x∈S,FS.Good fin al w x:=fun x hx=>((hS x).1 hx).good
 have hSi:∀x∈S,H5 fin.length w x:=fun x hx=>pW (fun a ha=>by have:=gJ hv ha;omega) (hSg x hx)
 have hwide:=fun T=>yD fin al w G T hv hw hG hGl
 have hWf:bJ [W,.sl S.length (qX S)]=true:=by rcases hW with ⟨rfl,_⟩|⟨rfl,_⟩<;>rfl
 have hfl:=gB (·.f) fin.length al
 have hrf:∀i:Nat,i<fin.length->(bz (·.f) fin.length al).getD i []=al.filter fun a=>a.f==(i:Int):=fun i hi=>jQ _ _ hi
 generalize hLF:bz (·.f) fin.length al=LF at hfl hrf hwide
 refine HT.of rfl Xo (Nat.le_of_ble_eq_true rfl) ?_
 unfold XK
 simp only [aS,Nat.reduceAdd,runT]
 refine ah ?_
 refine ae ?_
 refine JP (fr:=0) (by rfl) (eA rfl) rfl hWf rfl ?_
 repeat (first|refine ag ?_|refine aV ?_|refine af ?_|refine bY (by rfl) ?_|refine ah ?_|refine ae ?_|refine aH ?_|refine dR rfl (by rfl) dI ?_|refine aJ ?_|refine rQ dI ?_)
 refine cu [0,3,5,18,19,20] (fun s:Nat×List Int×(Int->List Nd)=>s.1<=S.length/\LN fin al w S s.1 s.2.1 s.2.2)
  (fun s=>⟨[(0,.ptr [.sl w.length (HL.ints w),.sl LF.length (dV LF),.rmap ⟨.ints 2,none⟩ (G.map pk) (jU G.length)] 0),(3,.pref 0 [] 0),(5,.mref 1 []),(18,.sl S.length (recs pC S)),(19,.int .i64 S.length),(20,.int .i64 s.1)],[(0,.optr [W,.sl S.length (qX S)]),(1,.omap ⟨.int .i64,none⟩ (mr s.2.1) (lG s.2.1 s.2.2 fun _=>none))],2⟩)
  (fun s=>S.length - s.1) (0,[],fun _=>[]) ⟨by simp,.start⟩ rfl ?_
 rintro ⟨i,ks,V⟩ ⟨hk1,hln⟩
 simp only at hk1 hln ⊢
 by_cases hi:i<S.length
 ·have hvm:S.getD i default∈S:=by rw [List.getD_eq_getElem?_getD,List.getElem?_eq_getElem hi];exact List.getElem_mem _
  obtain ⟨g1,g2,g3,g4⟩:=hSi _ hvm
  have hrow:=hrf (S.getD i default).1.toNat (by omega)
  rw [show (((S.getD i default).1.toNat:Nat):Int)=(S.getD i default).1 by omega] at hrow
  have hrl:(LF.getD (S.getD i default).1.toNat []).length<=al.length:=by rw [hrow];exact List.length_filter_le _ _
  have hlj:=hln.begin (G:=G) (v:=S.getD i default) (R:=LF.getD (S.getD i default).1.toNat [])
  repeat (first|refine aZ ?_|refine af ?_|refine az ?_|refine au ?_|refine ah ?_|refine ae ?_|refine aH ?_|refine aF ?_|refine bG ?_|refine dG ?_|refine bP dI ?_)
  refine fM bM bM (fun _ _ _=>False) ?_
  repeat (first|refine ag ?_|refine aZ ?_|refine dP ?_|refine aV ?_|refine af ?_|refine bY (by rfl) ?_|refine aH ?_|refine dw ?_|refine aJ ?_|refine fV aO rfl ?_)
  generalize hR:LF.getD (S.getD i default).1.toNat []=R at hrow hrl hlj
  refine cu [0,3,5,7,18,19,20,31,32,33] (fun s:Nat×List Int×(Int->List Nd)=>s.1<=R.length/\LJ fin al w G S i (S.getD i default) R s.1 s.2.1 s.2.2)
   (fun s=>⟨[(0,.ptr [.sl w.length (HL.ints w),.sl LF.length (dV LF),.rmap ⟨.ints 2,none⟩ (G.map pk) (jU G.length)] 0),(3,.pref 0 [] 0),(5,.mref 1 []),(7,.pref 2 [] 0),(18,.sl S.length (recs pC S)),(19,.int .i64 S.length),(20,.int .i64 i),(31,.sl R.length (recs aC R)),(32,.int .i64 R.length),(33,.int .i64 s.1)],[(0,.optr [W,.sl S.length (qX S)]),(1,.omap ⟨.int .i64,none⟩ (mr s.2.1) (lG s.2.1 s.2.2 fun _=>none)),(2,.optr [.int .i64 (S.getD i default).1,.int .i64 (S.getD i default).2])],3⟩)
   (fun s=>R.length - s.1) (0,ks,V) ⟨by simp,hlj⟩ rfl ?_
  rintro ⟨k,ks,V⟩ ⟨hkk,hlj⟩
  simp only at hkk hlj ⊢
  by_cases hkl:k<R.length
  ·have hnx:=EU w LF G (R.getD k default) (S.getD i default).2 g3 hw g4
   have hsk:=hlj.skip hkl
   have had:=fun y=>hlj.add hG hrow g3 hvm hkl (y:=y)
   obtain ⟨y,b,hy⟩:∃y b,iM w G (R.getD k default) (S.getD i default).2=(y,b):=⟨_,_,rfl⟩
   rw [hy] at hnx hsk had
   simp only [runT,aC] at hnx
   obtain ⟨y1,y2⟩:=y
   repeat (first|refine ag ?_|refine aZ ?_|refine aV ?_|refine af ?_|refine az ?_|refine au ?_|refine ah ?_|refine ae ?_|refine aH ?_|refine aF ?_|refine aJ ?_|refine bG ?_|refine gz ?_|refine dG ?_|refine bP dI ?_)
   refine bI bD cO (hnx) ?_
   rintro _ rfl
   simp only [pT,pC]
   refine ⟨bF,_,_,_,_,_,gq,(by decide),bC,?_⟩
   cases b with
   | false =>
    repeat (first|refine ag ?_|refine bV ?_|refine af ?_|refine aI ?_|refine bu ?_|refine dh ?_|refine ak ?_|refine ah ?_|refine ae ?_|refine fE ?_|refine aF ?_|refine dG ?_|refine bP dI ?_)
    exact dm [0,3,5,7,18,19,20,31,32,33] (k+1,ks,V) ⟨hkl,hsk (fun _ _ h=>by simp at h)⟩ iU rfl
   | true =>
    by_cases ho:(R.getD k default).o = -1
    ·repeat (first|refine ag ?_|refine aK ?_|refine aV ?_|refine af ?_|refine ji (by rfl) (by rfl) jm ?_|refine aN ?_|refine bu ?_|refine dh ?_|refine ak ?_|refine ah ?_|refine ae ?_|refine fE ?_|refine aF ?_|refine aJ ?_|refine dG ?_|refine bP dI ?_)
     exact dm [0,3,5,7,18,19,20,31,32,33] (k+1,ks,V) ⟨hkl,hsk (fun h=>absurd ho h)⟩ iU rfl
    ·have had':=had (y1,y2) ho rfl
     by_cases hs:(R.getD k default).o∈ks
     ·have hml:=wC (ks:=ks) (V:=V) (p:=fun _=>none) 1 hs
      have hins:ins (R.getD k default).o ks=ks:=by unfold ins;rw [if_pos hs]
      rw [hins] at had'
      repeat (first|refine ag ?_|refine aK ?_|refine iq (by rfl) bH (by (try simp (disch:=omega) only [go_sem,reduceIte,Nat.reduceEqDiff,Nat.reduceAdd,Nat.reduceMul,hml]);try rfl) aT (by (try simp (disch:=omega) only [go_sem,hml]);try rfl) aO ?_|refine af ?_|refine ji (by rfl) (by rfl) jm ?_|refine aN ?_|refine dh ?_|refine au ?_|refine ah ?_|refine ae ?_|refine aJ ?_|refine yV (by rfl) aO aQ iH (by rfl) (by decide) bH aQ aT (by (try simp (disch:=omega) only [go_sem,hml]);try rfl) aQ ?_|refine bP dI ?_|refine pF (by rfl) (by rfl) (by exact eY rfl) aO ⟨rfl,rfl⟩ (by (try simp (disch:=omega) only [go_sem,reduceIte,Nat.reduceEqDiff,Nat.reduceAdd,Nat.reduceMul,hml]);try rfl) (by rfl) ?_)
      refine MH (by rfl) (by rfl) (o7 hs _) ?_
      repeat (first|refine ag ?_|refine iq (by rfl) bH (by (try simp (disch:=omega) only [go_sem,reduceIte,Nat.reduceEqDiff,Nat.reduceAdd,Nat.reduceMul,hml]);try rfl) aT (by (try simp (disch:=omega) only [go_sem,hml]);try rfl) aO ?_|refine af ?_|refine ak ?_|refine ae ?_|refine aF ?_|refine aJ ?_|refine iK (by rfl) bH aQ aT (by decide) (by (try simp (disch:=omega) only [go_sem,reduceIte,Nat.reduceEqDiff,Nat.reduceAdd,Nat.reduceMul,hml]);try rfl) iH ?_|refine pF (by rfl) (by rfl) (by exact eY rfl) aO ⟨rfl,rfl⟩ (by (try simp (disch:=omega) only [go_sem,reduceIte,Nat.reduceEqDiff,Nat.reduceAdd,Nat.reduceMul,hml]);try rfl) (by rfl) ?_)
      have hng:=o7 (ks:=ks) (V:=V) (p:=fun _=>none) hs ⟨.int .i64,none⟩
      have hpt:=sO (V (R.getD k default).o) (.ints 2) y1 y2
      have hst:=xR (V:=V) (y:=(y1,y2)) hs hlj.ln.nd ⟨.int .i64,none⟩
      refine oC (by rfl) aO aO kM (by trivial) kM (hng) ⟨rfl,rfl⟩ (hpt) (hst) jq ?_
      repeat (first|refine ag ?_|refine af ?_|refine bu ?_|refine ae ?_|refine fE ?_)
      exact dm [0,3,5,7,18,19,20,31,32,33] (k+1,ks,I9 V (R.getD k default).o (y1,y2)) ⟨hkl,had'⟩ iU rfl
     ·have hml:=xK (ks:=ks) (V:=V) (p:=fun _=>none) 1 hs
      have hVn:V (R.getD k default).o=[]:=Classical.byContradiction fun h=>hs ((hlj.ln.out _).1 h)
      have hnew:=Nk hs hVn
      have hs':(R.getD k default).o∈ks++[(R.getD k default).o]:=by simp
      have hml2:=wC (ks:=ks++[(R.getD k default).o]) (V:=V) (p:=fun _=>none) 1 hs'
      have hins:ins (R.getD k default).o ks=ks++[(R.getD k default).o]:=by unfold ins;rw [if_neg hs]
      rw [hins] at had'
      repeat (first|refine ag ?_|refine aK ?_|refine iq (by rfl) bH (by (try simp (disch:=omega) only [go_sem,reduceIte,Nat.reduceEqDiff,Nat.reduceAdd,Nat.reduceMul,hml,hml2,hnew]);try rfl) aT (by (try simp (disch:=omega) only [go_sem,hml,hml2,hnew]);try rfl) aO ?_|refine af ?_|refine ji (by rfl) (by rfl) jm ?_|refine aN ?_|refine dh ?_|refine au ?_|refine ah ?_|refine ae ?_|refine aJ ?_|refine iK (by rfl) bH aQ aT (by decide) (by (try simp (disch:=omega) only [go_sem,reduceIte,Nat.reduceEqDiff,Nat.reduceAdd,Nat.reduceMul,hml,hml2,hnew]);try rfl) iH ?_|refine yV (by rfl) aO aQ iH (by rfl) (by decide) bH aQ aT (by (try simp (disch:=omega) only [go_sem,hml,hml2,hnew]);try rfl) aQ ?_|refine bP dI ?_|refine rQ dI ?_|refine pF (by rfl) (by rfl) (by exact eY rfl) aO ⟨rfl,rfl⟩ (by (try simp (disch:=omega) only [go_sem,reduceIte,Nat.reduceEqDiff,Nat.reduceAdd,Nat.reduceMul,hml,hml2,hnew]);try rfl) (by rfl) ?_|refine oC (by rfl) aO aO kM (by trivial) kM (by exact eY rfl) ⟨rfl,rfl⟩ (by (try simp (disch:=omega) only [go_sem,reduceIte,Nat.reduceEqDiff,Nat.reduceAdd,Nat.reduceMul,hml,hml2,hnew]);try rfl) aQ jq ?_|refine Md (by rfl) ?_)
      have hng:=o7 (ks:=ks++[(R.getD k default).o]) (V:=V) (p:=fun _=>none) hs' ⟨.int .i64,none⟩
      have hpt:=sO (V (R.getD k default).o) (.ints 2) y1 y2
      have hst:=xR (V:=V) (y:=(y1,y2)) hs' had'.ln.nd ⟨.int .i64,none⟩
      refine oC (by rfl) aO aO kM (by trivial) kM (hng) ⟨rfl,rfl⟩ (hpt) (hst) jq ?_
      repeat (first|refine ag ?_|refine af ?_|refine bu ?_|refine ae ?_|refine fE ?_)
      exact dm [0,3,5,7,18,19,20,31,32,33] (k+1,ks++[(R.getD k default).o],I9 V (R.getD k default).o (y1,y2)) ⟨hkl,had'⟩ iU rfl
  ·obtain rfl:k=R.length:=by omega
   have hd:=hlj.done hG hrow g3
   repeat (first|refine ag ?_|refine af ?_|refine az ?_|refine bu ?_|refine bK (by rfl) ?_|refine ak ?_|refine ah ?_|refine ae ?_|refine fE ?_)
   exact dm [0,3,5,18,19,20] (i+1,ks,V) ⟨hi,hd⟩ iU rfl
 ·obtain rfl:i=S.length:=by omega
  repeat (first|refine ag ?_|refine af ?_|refine az ?_|refine bK (by rfl) ?_|refine ak ?_|refine ah ?_|refine ae ?_|refine aH ?_|refine dR rfl (by rfl) dI ?_)
  refine lM (Weak.norm2 [0,3,5,12,67] _) ?_
  exact zC fin al w G S u W LF hLF hW hv hw hG hGl hS hu ks V hln
end Go.Proofs.Ytlbdmpjnmfmnfaa
