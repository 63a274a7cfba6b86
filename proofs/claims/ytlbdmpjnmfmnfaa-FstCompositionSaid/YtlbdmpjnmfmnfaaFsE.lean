import Derived.Test.YtlbdmpjnmfmnfaaFsW
import Derived.Test.YtlbdmpjnmfmnfaaFs2
set_option linter.unusedSimpArgs false
set_option linter.unusedVariables false
namespace Go.Proofs.Ytlbdmpjnmfmnfaa
open Go.RowKit Go.HL Go.FS
theorem ins_nodup {M:List Nd} {x:Nd} (h:M.Nodup):(ins x M).Nodup:=by
 unfold ins
 split
 ·exact h
 ·rename_i hx
  rw [List.nodup_append]
  exact ⟨h,by simp,fun a ha b hb e=>by simp at hb;subst hb;exact hx (e▸ha)⟩
theorem Md (x:Nd) (M:List Nd):(ins x M).length<=M.length+1:=by
 unfold ins;split<;>simp
set_option maxHeartbeats 8000000 in
theorem zB (fin:List Bool) (al:List A) (w:List Int) (G S:List Nd) (hv:okF fin al=true) (hw:w.length<=1024) (hG:∀x,x∈G <-> FS.Good fin al w x) (hGl:G.length<=4194304) (hS:∀x∈S,FS.Good fin al w x) (hSl:S.length<=8388608) :
  HTM Try.prog 55 [.ptr (runT w (bD (·.f) fin.length al) G) 0,.osl 2 S.length (rG S)] (fun r=>∃L,r=.osl 2 L.length (rG L)/\(∀x,x∈L <-> Cl fin al w (·∈S) x)/\L.length<=S.length+G.length):=by
 obtain ⟨h1,h2,h3⟩:=jH hv
 have hfl:=gU (·.f) fin.length al
 have hrf:∀i:Nat,i<fin.length->(bD (·.f) fin.length al).getD i []=al.filter fun a=>a.f==(i:Int):=fun i hi=>jU _ _ hi
 generalize hLF:bD (·.f) fin.length al=LF at hfl hrf
 refine HTM.of rfl Yu (Nat.le_of_ble_eq_true rfl) (⟨[(0,.ptr (runT w LF G) 0),(1,.ref 0 [] 2 0 S.length)],[(0,.osl 2 S.length (rG S))],1⟩:St) rfl ?_
 unfold Zp
 simp only [runT]
 repeat (first|refine ag ?_|refine af ?_|refine fC (by rfl) ?_|refine ah ?_|refine ae ?_|refine aG ?_|refine bG ?_|refine sZ dZ ?_)
 refine cu [0,1,5,14,15,16] (fun s:Nat×List Nd=>s.1<=S.length/\s.2.Nodup/\s.2.length<=s.1/\∀x,x∈s.2 <-> x∈S.take s.1)
  (fun s=>⟨[(0,.ptr [.sl w.length (HL.ints w),.sl LF.length (dW LF),.rmap ⟨.ints 2,none⟩ (G.map pk) (jV G.length)] 0),(1,.ref 0 [] 2 0 S.length),(5,.mref 1 []),(14,.ref 0 [] 2 0 S.length),(15,.int .i64 S.length),(16,.int .i64 s.1)],[(0,.osl 2 S.length (rG S)),(1,.omap ⟨.ints 2,none⟩ (s.2.map pk) (jV s.2.length))],2⟩)
  (fun s=>S.length - s.1) (0,[]) ⟨by simp,by simp,by simp,by simp⟩ rfl ?_
 rintro ⟨k,M⟩ ⟨hk,hM,hMl,hMm⟩
 simp only at hk hM hMl hMm ⊢
 by_cases hkl:k<S.length
 ·have htk:=dh hkl
  repeat (first|refine ag ?_|refine nY (by rfl) (by rfl) (by omega) dZ ?_|refine af ?_|refine az ?_|refine bz ?_|refine ak ?_|refine ah ?_|refine ae ?_|refine aG ?_|refine fJ ?_|refine aA ?_|refine gK ?_|refine dJ ?_|refine bY dZ ?_|refine o7 (by rfl) aJ aJ kS (by trivial) kS (by exact eY rfl) ⟨rfl,rfl⟩ Jc aV jA ?_)
  refine dC [0,1,5,14,15,16] (k+1,ins (S.getD k default) M) ⟨hkl,ins_nodup hM,by have:=Md (S.getD k default) M;simp only;omega,fun x=>?_⟩ iC rfl
  simp only [mem_ins,htk,List.mem_append,List.mem_singleton,hMm]
  exact or_comm
 ·obtain rfl:k=S.length:=by omega
  rw [List.take_length] at hMm
  have hwi:=WI.start (fin:=fin) (al:=al) (w:=w) hM hMm
  repeat (first|refine ag ?_|refine af ?_|refine az ?_|refine bF (by rfl) ?_|refine au ?_|refine ah ?_|refine ae ?_|refine aG ?_)
  refine cu [0,1,5,8] (fun s:Nat×List Nd×List Nd=>WI fin al w S s.1 s.2.1 s.2.2/\s.1<=s.2.1.length)
   (fun s=>⟨[(0,.ptr [.sl w.length (HL.ints w),.sl LF.length (dW LF),.rmap ⟨.ints 2,none⟩ (G.map pk) (jV G.length)] 0),(1,.ref 0 [] 2 0 s.2.1.length),(5,.mref 1 []),(8,.int .i64 s.1)],[(0,.osl 2 s.2.1.length (rG s.2.1)),(1,.omap ⟨.ints 2,none⟩ (s.2.2.map pk) (jV s.2.2.length))],2⟩)
   (fun s=>(G.length - s.2.2.length)+(s.2.1.length - s.1)) (0,S,M) ⟨hwi,by simp⟩ rfl ?_
  rintro ⟨i,L,M⟩ ⟨hwi,hil⟩
  simp only at hwi hil ⊢
  have hcard:=hwi.card hG hS
  have hlen:=hwi.len
  by_cases hi:i<L.length
  ·have hvm:L.getD i default∈L:=by rw [List.getD_eq_getElem?_getD,List.getElem?_eq_getElem hi];exact List.getElem_mem _
   have hvg:=EN hS (hwi.sub _ hvm)
   obtain ⟨g1,g2,g3,g4⟩:=rZ (fun a ha=>by have:=fU hv ha;omega) hvg
   have hrow:=hrf (L.getD i default).1.toNat (by omega)
   rw [show (((L.getD i default).1.toNat:Nat):Int)=(L.getD i default).1 by omega] at hrow
   have hrl:(LF.getD (L.getD i default).1.toNat []).length<=al.length:=by rw [hrow];exact List.length_filter_le _ _
   have hwj:=WI.begin (G:=G) (R:=LF.getD (L.getD i default).1.toNat []) hwi hi
   repeat (first|refine ag ?_|refine af ?_|refine az ?_|refine fC (by rfl) ?_|refine ak ?_|refine ah ?_|refine ae ?_|refine aG ?_|refine aA ?_)
   refine fB bK bK (fun _ _ _=>False) ?_
   repeat (first|refine ag ?_|refine aT ?_|refine nY (by rfl) (by rfl) (by omega) dZ ?_|refine bU ?_|refine aY ?_|refine af ?_|refine aP ?_|refine aG ?_|refine dD ?_|refine aI ?_|refine gq aJ rfl ?_)
   generalize hR:LF.getD (L.getD i default).1.toNat []=R at hrow hrl hwj
   generalize hve:L.getD i default=v at hrow hwj g1 g2 g3 g4
   refine cu [0,1,5,8,39,40,41] (fun s:Nat×List Nd×List Nd=>s.1<=R.length/\WJ fin al w G S i v R s.1 s.2.1 s.2.2/\s.2.1.length+M.length=L.length+s.2.2.length/\M.length<=s.2.2.length)
    (fun s=>⟨[(0,.ptr [.sl w.length (HL.ints w),.sl LF.length (dW LF),.rmap ⟨.ints 2,none⟩ (G.map pk) (jV G.length)] 0),(1,.ref 0 [] 2 0 s.2.1.length),(5,.mref 1 []),(8,.int .i64 i),(39,.sl R.length (recs aC R)),(40,.int .i64 R.length),(41,.int .i64 s.1)],[(0,.osl 2 s.2.1.length (rG s.2.1)),(1,.omap ⟨.ints 2,none⟩ (s.2.2.map pk) (jV s.2.2.length))],2⟩)
    (fun s=>R.length - s.1) (0,L,M) ⟨by simp,hwj,by simp,by simp⟩ rfl ?_
   rintro ⟨k,L',M'⟩ ⟨hk,hwj,hm1,hm2⟩
   simp only at hk hwj hm1 hm2 ⊢
   have hcard':=hwj.wi.card hG hS
   have hlen':=hwj.wi.len
   have hat:=hwj.at_
   have hil':=hwj.lt
   by_cases hkl:k<R.length
   ·have hnx:=F5 w LF G (R.getD k default) v.2 g3 hw g4
    have hsk:=hwj.skip hkl
    have had:=fun y=>hwj.add hG hrow g3 hkl (y:=y)
    obtain ⟨y,b,hy⟩:∃y b,iV w G (R.getD k default) v.2=(y,b):=⟨_,_,rfl⟩
    rw [hy] at hnx hsk had
    simp only [runT,aC] at hnx
    obtain ⟨y1,y2⟩:=y
    cases b with
    | false =>
     repeat (first|refine aT ?_|refine af ?_|refine az ?_|refine ak ?_|refine ah ?_|refine ae ?_|refine aG ?_|refine aA ?_|refine bI ?_|refine dJ ?_|refine bY dZ ?_)
     refine fB bK bK (fun _ _ r=>r=.tup [pT (y1,y2),.bool false]) ?_
     repeat (first|refine ag ?_|refine nY (by rfl) (by rfl) (by omega) dZ ?_|refine iw (by rfl) bT (by (try simp (disch:=omega) only [go_sem,reduceIte,Nat.reduceEqDiff,Nat.reduceAdd,Nat.reduceMul,hat]);try rfl) aS (by (try simp (disch:=omega) only [go_sem,hat]);try rfl) aJ ?_|refine aI ?_|refine iR (by rfl) bT aV aS (by decide) (by (try simp (disch:=omega) only [go_sem,reduceIte,Nat.reduceEqDiff,Nat.reduceAdd,Nat.reduceMul,hat]);try rfl) iO ?_)
     refine iy bJ cZ hnx ⟨_,rfl,rfl⟩ ?_
     rintro _ rfl -
     simp only [pT,pC]
     refine ⟨bP,_,_,_,_,_,gV,(by decide),bH,?_⟩
     repeat (first|refine ag ?_|refine dm ?_|refine af ?_|refine aK ?_|refine bz ?_|refine iU (by rfl) aS aJ ?_|refine au ?_|refine ah ?_|refine ae ?_|refine fJ ?_|refine aA ?_|refine dJ ?_|refine bY dZ ?_)
     exact dC [0,1,5,8,39,40,41] (k+1,L',M') ⟨hkl,hsk (fun _ _ h=>by simp at h),hm1,hm2⟩ iC rfl
    | true =>
     by_cases ho:(R.getD k default).o = -1
     ·by_cases hmem:(y1,y2)∈M'
      ·have hdm:decide ((y1,y2)∈M')=true:=decide_eq_true hmem
       repeat (first|refine aT ?_|refine af ?_|refine az ?_|refine ak ?_|refine ah ?_|refine ae ?_|refine aG ?_|refine aA ?_|refine bI ?_|refine dJ ?_|refine bY dZ ?_)
       refine fB bK bK (fun _ _ r=>r=.tup [pT (y1,y2),.bool true]) ?_
       repeat (first|refine ag ?_|refine nY (by rfl) (by rfl) (by omega) dZ ?_|refine iw (by rfl) bT (by (try simp (disch:=omega) only [go_sem,reduceIte,Nat.reduceEqDiff,Nat.reduceAdd,Nat.reduceMul,hat]);try rfl) aS (by (try simp (disch:=omega) only [go_sem,hat]);try rfl) aJ ?_|refine aI ?_|refine iR (by rfl) bT aV aS (by decide) (by (try simp (disch:=omega) only [go_sem,reduceIte,Nat.reduceEqDiff,Nat.reduceAdd,Nat.reduceMul,hat]);try rfl) iO ?_)
       refine iy bJ cZ hnx ⟨_,rfl,rfl⟩ ?_
       rintro _ rfl -
       simp only [pT,pC]
       refine ⟨bP,_,_,_,_,_,gV,(by decide),bH,?_⟩
       repeat (first|refine ag ?_|refine aQ ?_|refine iw (by rfl) bT (by (try simp (disch:=omega) only [go_sem,reduceIte,Nat.reduceEqDiff,Nat.reduceAdd,Nat.reduceMul,hdm]);try rfl) aS (by (try simp (disch:=omega) only [go_sem,hdm]);try rfl) aJ ?_|refine af ?_|refine dH ?_|refine aO ?_|refine kP (by rfl) (by rfl) (by (try simp (disch:=omega) only [go_sem,Int.reduceAdd,Int.reduceSub,Int.reduceMul,hdm]);try rfl) ?_|refine iU (by rfl) aS aJ ?_|refine au ?_|refine ah ?_|refine ae ?_|refine fJ ?_|refine aA ?_|refine ja (by rfl) ?_|refine aI ?_|refine iR (by rfl) bT aV aS (by decide) (by (try simp (disch:=omega) only [go_sem,reduceIte,Nat.reduceEqDiff,Nat.reduceAdd,Nat.reduceMul,hdm]);try rfl) iO ?_|refine zM (by rfl) aJ aV iO (by rfl) (by decide) bT aV aS (by (try simp (disch:=omega) only [go_sem,hdm]);try rfl) aV ?_|refine bY dZ ?_|refine oJ (by rfl) (by rfl) (by exact eY rfl) aJ ⟨rfl,rfl⟩ (by (try simp (disch:=omega) only [go_sem,reduceIte,Nat.reduceEqDiff,Nat.reduceAdd,Nat.reduceMul,hdm]);try rfl) (by rfl) ?_)
       exact dC [0,1,5,8,39,40,41] (k+1,L',M') ⟨hkl,hsk (fun _ y h=>by simp only [Prod.mk.injEq,and_true] at h;rw [<- h];exact (hwj.wi.mem _).1 hmem),hm1,hm2⟩ iC rfl
      ·have hdm:decide ((y1,y2)∈M')=false:=decide_eq_false hmem
       have hins:ins (y1,y2) M'=M'++[(y1,y2)]:=by unfold ins;rw [if_neg hmem]
       have had':=had (y1,y2) ho rfl (fun h=>hmem ((hwj.wi.mem _).2 h))
       have hl1:(L'++[(y1,y2)]).length=L'.length+1:=by simp
       have hl2:(M'++[(y1,y2)]).length=M'.length+1:=by simp
       repeat (first|refine aT ?_|refine af ?_|refine az ?_|refine ak ?_|refine ah ?_|refine ae ?_|refine aG ?_|refine aA ?_|refine bI ?_|refine dJ ?_|refine bY dZ ?_)
       refine fB bK bK (fun _ _ r=>r=.tup [pT (y1,y2),.bool true]) ?_
       repeat (first|refine ag ?_|refine nY (by rfl) (by rfl) (by omega) dZ ?_|refine iw (by rfl) bT (by (try simp (disch:=omega) only [go_sem,reduceIte,Nat.reduceEqDiff,Nat.reduceAdd,Nat.reduceMul,hat]);try rfl) aS (by (try simp (disch:=omega) only [go_sem,hat]);try rfl) aJ ?_|refine aI ?_|refine iR (by rfl) bT aV aS (by decide) (by (try simp (disch:=omega) only [go_sem,reduceIte,Nat.reduceEqDiff,Nat.reduceAdd,Nat.reduceMul,hat]);try rfl) iO ?_)
       refine iy bJ cZ hnx ⟨_,rfl,rfl⟩ ?_
       rintro _ rfl -
       simp only [pT,pC]
       refine ⟨bP,_,_,_,_,_,gV,(by decide),bH,?_⟩
       repeat (first|refine ag ?_|refine aQ ?_|refine iw (by rfl) bT (by (try simp (disch:=omega) only [go_sem,reduceIte,Nat.reduceEqDiff,Nat.reduceAdd,Nat.reduceMul,hdm,hins]);try rfl) aS (by (try simp (disch:=omega) only [go_sem,hdm,hins]);try rfl) aJ ?_|refine af ?_|refine dH ?_|refine aO ?_|refine kP (by rfl) (by rfl) (by (try simp (disch:=omega) only [go_sem,Int.reduceAdd,Int.reduceSub,Int.reduceMul,hdm,hins]);try rfl) ?_|refine iU (by rfl) aS aJ ?_|refine ak ?_|refine ah ?_|refine ae ?_|refine fJ ?_|refine iK (by rfl) ?_|refine aI ?_|refine iR (by rfl) bT aV aS (by decide) (by (try simp (disch:=omega) only [go_sem,reduceIte,Nat.reduceEqDiff,Nat.reduceAdd,Nat.reduceMul,hdm,hins]);try rfl) iO ?_|refine zM (by rfl) aJ aV iO (by rfl) (by decide) bT aV aS (by (try simp (disch:=omega) only [go_sem,hdm,hins]);try rfl) aV ?_|refine bQ ?_|refine bY dZ ?_|refine lY dZ (by rfl) aJ tH (by (try simp (disch:=omega) only [go_sem,reduceIte,Nat.reduceEqDiff,Nat.reduceAdd,Nat.reduceMul,hdm,hins]);try omega) bT (by (try simp (disch:=omega) only [go_sem,reduceIte,Nat.reduceEqDiff,Nat.reduceAdd,Nat.reduceMul,hdm,hins]);try rfl) dZ (by omega) iq aS (by (try simp (disch:=omega) only [go_sem,reduceIte,Nat.reduceEqDiff,Nat.reduceAdd,Nat.reduceMul,hdm,hins]);try rfl) aV ?_|refine oJ (by rfl) (by rfl) (by exact eY rfl) aJ ⟨rfl,rfl⟩ (by (try simp (disch:=omega) only [go_sem,reduceIte,Nat.reduceEqDiff,Nat.reduceAdd,Nat.reduceMul,hdm,hins]);try rfl) (by rfl) ?_|refine o7 (by rfl) aJ aJ kS (by trivial) kS (by exact eY rfl) ⟨rfl,rfl⟩ (by (try simp (disch:=omega) only [go_sem,reduceIte,Nat.reduceEqDiff,Nat.reduceAdd,Nat.reduceMul,hdm,hins]);try rfl) aV jA ?_)
       exact dC [0,1,5,8,39,40,41] (k+1,L'++[(y1,y2)],M'++[(y1,y2)]) ⟨hkl,had',by simp only [hl1,hl2];omega,by simp only [hl2];omega⟩ iC (by simp only [hl1];rfl)
     ·
      repeat (first|refine aT ?_|refine af ?_|refine az ?_|refine ak ?_|refine ah ?_|refine ae ?_|refine aG ?_|refine aA ?_|refine bI ?_|refine dJ ?_|refine bY dZ ?_)
      refine fB bK bK (fun _ _ r=>r=.tup [pT (y1,y2),.bool true]) ?_
      repeat (first|refine ag ?_|refine nY (by rfl) (by rfl) (by omega) dZ ?_|refine iw (by rfl) bT (by (try simp (disch:=omega) only [go_sem,reduceIte,Nat.reduceEqDiff,Nat.reduceAdd,Nat.reduceMul,hat]);try rfl) aS (by (try simp (disch:=omega) only [go_sem,hat]);try rfl) aJ ?_|refine aI ?_|refine iR (by rfl) bT aV aS (by decide) (by (try simp (disch:=omega) only [go_sem,reduceIte,Nat.reduceEqDiff,Nat.reduceAdd,Nat.reduceMul,hat]);try rfl) iO ?_)
      refine iy bJ cZ hnx ⟨_,rfl,rfl⟩ ?_
      rintro _ rfl -
      simp only [pT,pC]
      refine ⟨bP,_,_,_,_,_,gV,(by decide),bH,?_⟩
      repeat (first|refine ag ?_|refine aQ ?_|refine dm ?_|refine aY ?_|refine af ?_|refine dH ?_|refine aO ?_|refine aK ?_|refine bz ?_|refine iU (by rfl) aS aJ ?_|refine au ?_|refine ah ?_|refine ae ?_|refine fJ ?_|refine aA ?_|refine aI ?_|refine dJ ?_|refine bY dZ ?_)
      exact dC [0,1,5,8,39,40,41] (k+1,L',M') ⟨hkl,hsk (fun h=>absurd h ho),hm1,hm2⟩ iC rfl
   ·obtain rfl:k=R.length:=by omega
    have hd:=hwj.done hG hrow g3
    repeat (first|refine ag ?_|refine af ?_|refine az ?_|refine bz ?_|refine bF (by rfl) ?_|refine au ?_|refine ah ?_|refine ae ?_|refine fJ ?_)
    exact dC [0,1,5,8] (i+1,L',M') ⟨hd,by simp only;omega⟩ iC rfl
  ·have hdone:=hwi.done (by omega)
   repeat (first|refine ag ?_|refine af ?_|refine az ?_|refine fC (by rfl) ?_|refine bF (by rfl) ?_|refine au ?_|refine ah ?_|refine ae ?_)
   refine ax ?_
   exact ⟨L,rfl,hdone,by omega⟩
end Go.Proofs.Ytlbdmpjnmfmnfaa
