import Derived.Test.YtlbdmpjnmfmnfaaFsW
import Derived.Test.YtlbdmpjnmfmnfaaFw4
set_option linter.unusedSimpArgs false
set_option linter.unusedVariables false
namespace Go.Proofs.Ytlbdmpjnmfmnfaa
open Go.RowKit Go.HL Go.FS
theorem ins_nodup {M:List Nd} {x:Nd} (h:M.Nodup):(ins x M).Nodup:=by
 unfold ins
 split
 ·exact h
 ·rename_i hx
  rw [List.nodup_append]
  exact ⟨h,by simp,fun a ha b hb e=>by simp at hb;subst hb;exact hx (e▸ha)⟩
theorem Qq (x:Nd) (M:List Nd):(ins x M).length<=M.length+1:=by
 unfold ins;split<;>simp
set_option maxHeartbeats 8000000 in
theorem Az (fin:List Bool) (al:List A) (w:List Int) (G S:List Nd) (hv:okF fin al=true) (hw:w.length<=1024) (hG:∀x,x∈G <-> FS.Good fin al w x) (hGl:G.length<=4194304) (hS:∀x∈S,FS.Good fin al w x) (hSl:S.length<=8388608) :
  HTM Try.prog 55 [.ptr (runT w (bD (·.f) fin.length al) G) 0,.osl 2 S.length (nY S)] (fun r=>∃L,r=.osl 2 L.length (nY L)/\(∀x,x∈L <-> Cl fin al w (·∈S) x)/\L.length<=S.length+G.length):=by
 obtain ⟨h1,h2,h3⟩:=gm hv
 have hfl:=iE (·.f) fin.length al
 have hrf:∀i:Nat,i<fin.length->(bD (·.f) fin.length al).getD i []=al.filter fun a=>a.f==(i:Int):=fun i hi=>kK _ _ hi
 generalize hLF:bD (·.f) fin.length al=LF at hfl hrf
 refine HTM.of rfl aaw (Nat.le_of_ble_eq_true rfl) (⟨[(0,.ptr (runT w LF G) 0),(1,.ref 0 [] 2 0 S.length)],[(0,.osl 2 S.length (nY S))],1⟩:St) rfl ?_
 unfold c55
 simp only [runT]
 repeat (first|refine ah ?_|refine af ?_|refine fG (by rfl) ?_|refine ak ?_|refine ae ?_|refine aK ?_|refine bK ?_|refine uC dZ ?_)
 refine dn [0,1,5,14,15,16] (fun s:Nat×List Nd=>s.1<=S.length/\s.2.Nodup/\s.2.length<=s.1/\∀x,x∈s.2 <-> x∈S.take s.1)
  (fun s=>⟨[(0,.ptr [.sl w.length (HL.ints w),.sl LF.length (eU LF),.rmap ⟨.ints 2,none⟩ (G.map pk) (kT G.length)] 0),(1,.ref 0 [] 2 0 S.length),(5,.mref 1 []),(14,.ref 0 [] 2 0 S.length),(15,.int .i64 S.length),(16,.int .i64 s.1)],[(0,.osl 2 S.length (nY S)),(1,.omap ⟨.ints 2,none⟩ (s.2.map pk) (kT s.2.length))],2⟩)
  (fun s=>S.length - s.1) (0,[]) ⟨by simp,by simp,by simp,by simp⟩ rfl ?_
 rintro ⟨k,M⟩ ⟨hk,hM,hMl,hMm⟩
 simp only at hk hM hMl hMm ⊢
 by_cases hkl:k<S.length
 ·have htk:=dC hkl
  repeat (first|refine ah ?_|refine gQ ?_|refine af ?_|refine aF ?_|refine bM ?_|refine ax ?_|refine ak ?_|refine ae ?_|refine aK ?_|refine gV ?_|refine aI ?_|refine gq ?_|refine dG ?_|refine bI dZ ?_|refine qW (by rfl) aJ aJ lQ (by trivial) lQ (by exact eY rfl) ⟨rfl,rfl⟩ F6 aO jk ?_)
  refine dS [0,1,5,14,15,16] (k+1,ins (S.getD k default) M) ⟨hkl,ins_nodup hM,by have:=Qq (S.getD k default) M;simp only;omega,fun x=>?_⟩ iH rfl
  simp only [mem_ins,htk,List.mem_append,List.mem_singleton,hMm]
  exact or_comm
 ·obtain rfl:k=S.length:=by omega
  rw [List.take_length] at hMm
  have hwi:=WI.start (fin:=fin) (al:=al) (w:=w) hM hMm
  repeat (first|refine ah ?_|refine af ?_|refine aF ?_|refine bZ (by rfl) ?_|refine au ?_|refine ak ?_|refine ae ?_|refine aK ?_)
  refine dn [0,1,5,8] (fun s:Nat×List Nd×List Nd=>WI fin al w S s.1 s.2.1 s.2.2/\s.1<=s.2.1.length)
   (fun s=>⟨[(0,.ptr [.sl w.length (HL.ints w),.sl LF.length (eU LF),.rmap ⟨.ints 2,none⟩ (G.map pk) (kT G.length)] 0),(1,.ref 0 [] 2 0 s.2.1.length),(5,.mref 1 []),(8,.int .i64 s.1)],[(0,.osl 2 s.2.1.length (nY s.2.1)),(1,.omap ⟨.ints 2,none⟩ (s.2.2.map pk) (kT s.2.2.length))],2⟩)
   (fun s=>(G.length - s.2.2.length)+(s.2.1.length - s.1)) (0,S,M) ⟨hwi,by simp⟩ rfl ?_
  rintro ⟨i,L,M⟩ ⟨hwi,hil⟩
  simp only at hwi hil ⊢
  have hcard:=hwi.card hG hS
  have hlen:=hwi.len
  by_cases hi:i<L.length
  ·have hvm:L.getD i default∈L:=by rw [List.getD_eq_getElem?_getD,List.getElem?_eq_getElem hi];exact List.getElem_mem _
   have hvg:=GY hS (hwi.sub _ hvm)
   obtain ⟨g1,g2,g3,g4⟩:=ui (fun a ha=>by have:=fD hv ha;omega) hvg
   have hrow:=hrf (L.getD i default).1.toNat (by omega)
   rw [show (((L.getD i default).1.toNat:Nat):Int)=(L.getD i default).1 by omega] at hrow
   have hrl:(LF.getD (L.getD i default).1.toNat []).length<=al.length:=by rw [hrow];exact List.length_filter_le _ _
   have hwj:=WI.begin (G:=G) (R:=LF.getD (L.getD i default).1.toNat []) hwi hi
   repeat (first|refine ah ?_|refine af ?_|refine aF ?_|refine fG (by rfl) ?_|refine ax ?_|refine ak ?_|refine ae ?_|refine aK ?_|refine aI ?_)
   refine gJ bC bC (fun _ _ _=>False) ?_
   repeat (first|refine ah ?_|refine bu ?_|refine gQ ?_|refine dP ?_|refine aW ?_|refine af ?_|refine dm (by rfl) ?_|refine aK ?_|refine dh ?_|refine aH ?_|refine gX aJ rfl ?_)
   generalize hR:LF.getD (L.getD i default).1.toNat []=R at hrow hrl hwj
   generalize hve:L.getD i default=v at hrow hwj g1 g2 g3 g4
   refine dn [0,1,5,8,39,40,41] (fun s:Nat×List Nd×List Nd=>s.1<=R.length/\WJ fin al w G S i v R s.1 s.2.1 s.2.2/\s.2.1.length+M.length=L.length+s.2.2.length/\M.length<=s.2.2.length)
    (fun s=>⟨[(0,.ptr [.sl w.length (HL.ints w),.sl LF.length (eU LF),.rmap ⟨.ints 2,none⟩ (G.map pk) (kT G.length)] 0),(1,.ref 0 [] 2 0 s.2.1.length),(5,.mref 1 []),(8,.int .i64 i),(39,.sl R.length (recs aC R)),(40,.int .i64 R.length),(41,.int .i64 s.1)],[(0,.osl 2 s.2.1.length (nY s.2.1)),(1,.omap ⟨.ints 2,none⟩ (s.2.2.map pk) (kT s.2.2.length))],2⟩)
    (fun s=>R.length - s.1) (0,L,M) ⟨by simp,hwj,by simp,by simp⟩ rfl ?_
   rintro ⟨k,L',M'⟩ ⟨hk,hwj,hm1,hm2⟩
   simp only at hk hwj hm1 hm2 ⊢
   have hcard':=hwj.wi.card hG hS
   have hlen':=hwj.wi.len
   have hat:=hwj.at_
   have hil':=hwj.lt
   by_cases hkl:k<R.length
   ·have hnx:=Gs w LF G (R.getD k default) v.2 g3 hw g4
    have hsk:=hwj.skip hkl
    have had:=fun y=>hwj.add hG hrow g3 hkl (y:=y)
    obtain ⟨y,b,hy⟩:∃y b,jc w G (R.getD k default) v.2=(y,b):=⟨_,_,rfl⟩
    rw [hy] at hnx hsk had
    simp only [runT,aC] at hnx
    obtain ⟨y1,y2⟩:=y
    cases b with
    | false =>
     repeat (first|refine bu ?_|refine af ?_|refine aF ?_|refine ax ?_|refine ak ?_|refine ae ?_|refine aK ?_|refine aI ?_|refine bG ?_|refine dG ?_|refine bI dZ ?_)
     refine gJ bC bC (fun _ _ r=>r=.tup [pT (y1,y2),.bool false]) ?_
     repeat (first|refine ah ?_|refine gQ ?_|refine iG (by rfl) bQ (by (try simp (disch:=omega) only [go_sem,reduceIte,Nat.reduceEqDiff,Nat.reduceAdd,Nat.reduceMul,hat]);try rfl) aQ (by (try simp (disch:=omega) only [go_sem,hat]);try rfl) aJ ?_|refine aH ?_|refine iZ (by rfl) bQ aO aQ (by decide) (by (try simp (disch:=omega) only [go_sem,reduceIte,Nat.reduceEqDiff,Nat.reduceAdd,Nat.reduceMul,hat]);try rfl) iM ?_)
     refine jb bH dw hnx ⟨_,rfl,rfl⟩ ?_
     rintro _ rfl -
     simp only [pT,pC]
     refine ⟨bJ,_,_,_,_,_,gY,(by decide),bF,?_⟩
     repeat (first|refine ah ?_|refine dI ?_|refine af ?_|refine aS ?_|refine bM ?_|refine jA (by rfl) aQ aJ ?_|refine au ?_|refine ak ?_|refine ae ?_|refine gV ?_|refine aI ?_|refine dG ?_|refine bI dZ ?_)
     exact dS [0,1,5,8,39,40,41] (k+1,L',M') ⟨hkl,hsk (fun _ _ h=>by simp at h),hm1,hm2⟩ iH rfl
    | true =>
     by_cases ho:(R.getD k default).o = -1
     ·by_cases hmem:(y1,y2)∈M'
      ·have hdm:decide ((y1,y2)∈M')=true:=decide_eq_true hmem
       repeat (first|refine bu ?_|refine af ?_|refine aF ?_|refine ax ?_|refine ak ?_|refine ae ?_|refine aK ?_|refine aI ?_|refine bG ?_|refine dG ?_|refine bI dZ ?_)
       refine gJ bC bC (fun _ _ r=>r=.tup [pT (y1,y2),.bool true]) ?_
       repeat (first|refine ah ?_|refine gQ ?_|refine iG (by rfl) bQ (by (try simp (disch:=omega) only [go_sem,reduceIte,Nat.reduceEqDiff,Nat.reduceAdd,Nat.reduceMul,hat]);try rfl) aQ (by (try simp (disch:=omega) only [go_sem,hat]);try rfl) aJ ?_|refine aH ?_|refine iZ (by rfl) bQ aO aQ (by decide) (by (try simp (disch:=omega) only [go_sem,reduceIte,Nat.reduceEqDiff,Nat.reduceAdd,Nat.reduceMul,hat]);try rfl) iM ?_)
       refine jb bH dw hnx ⟨_,rfl,rfl⟩ ?_
       rintro _ rfl -
       simp only [pT,pC]
       refine ⟨bJ,_,_,_,_,_,gY,(by decide),bF,?_⟩
       repeat (first|refine ah ?_|refine aT ?_|refine iG (by rfl) bQ (by (try simp (disch:=omega) only [go_sem,reduceIte,Nat.reduceEqDiff,Nat.reduceAdd,Nat.reduceMul,hdm]);try rfl) aQ (by (try simp (disch:=omega) only [go_sem,hdm]);try rfl) aJ ?_|refine af ?_|refine dV ?_|refine aU ?_|refine kF (by rfl) (by rfl) (by (try simp (disch:=omega) only [go_sem,Int.reduceAdd,Int.reduceSub,Int.reduceMul,hdm]);try rfl) ?_|refine jA (by rfl) aQ aJ ?_|refine au ?_|refine ak ?_|refine ae ?_|refine gV ?_|refine aI ?_|refine iU (by rfl) ?_|refine aH ?_|refine iZ (by rfl) bQ aO aQ (by decide) (by (try simp (disch:=omega) only [go_sem,reduceIte,Nat.reduceEqDiff,Nat.reduceAdd,Nat.reduceMul,hdm]);try rfl) iM ?_|refine yP (by rfl) aJ aO iM (by rfl) (by decide) bQ aO aQ (by (try simp (disch:=omega) only [go_sem,hdm]);try rfl) aO ?_|refine bI dZ ?_|refine qH (by rfl) (by rfl) (by exact eY rfl) aJ ⟨rfl,rfl⟩ (by (try simp (disch:=omega) only [go_sem,reduceIte,Nat.reduceEqDiff,Nat.reduceAdd,Nat.reduceMul,hdm]);try rfl) (by rfl) ?_)
       exact dS [0,1,5,8,39,40,41] (k+1,L',M') ⟨hkl,hsk (fun _ y h=>by simp only [Prod.mk.injEq,and_true] at h;rw [<- h];exact (hwj.wi.mem _).1 hmem),hm1,hm2⟩ iH rfl
      ·have hdm:decide ((y1,y2)∈M')=false:=decide_eq_false hmem
       have hins:ins (y1,y2) M'=M'++[(y1,y2)]:=by unfold ins;rw [if_neg hmem]
       have had':=had (y1,y2) ho rfl (fun h=>hmem ((hwj.wi.mem _).2 h))
       have hl1:(L'++[(y1,y2)]).length=L'.length+1:=by simp
       have hl2:(M'++[(y1,y2)]).length=M'.length+1:=by simp
       repeat (first|refine bu ?_|refine af ?_|refine aF ?_|refine ax ?_|refine ak ?_|refine ae ?_|refine aK ?_|refine aI ?_|refine bG ?_|refine dG ?_|refine bI dZ ?_)
       refine gJ bC bC (fun _ _ r=>r=.tup [pT (y1,y2),.bool true]) ?_
       repeat (first|refine ah ?_|refine gQ ?_|refine iG (by rfl) bQ (by (try simp (disch:=omega) only [go_sem,reduceIte,Nat.reduceEqDiff,Nat.reduceAdd,Nat.reduceMul,hat]);try rfl) aQ (by (try simp (disch:=omega) only [go_sem,hat]);try rfl) aJ ?_|refine aH ?_|refine iZ (by rfl) bQ aO aQ (by decide) (by (try simp (disch:=omega) only [go_sem,reduceIte,Nat.reduceEqDiff,Nat.reduceAdd,Nat.reduceMul,hat]);try rfl) iM ?_)
       refine jb bH dw hnx ⟨_,rfl,rfl⟩ ?_
       rintro _ rfl -
       simp only [pT,pC]
       refine ⟨bJ,_,_,_,_,_,gY,(by decide),bF,?_⟩
       repeat (first|refine ah ?_|refine aT ?_|refine iG (by rfl) bQ (by (try simp (disch:=omega) only [go_sem,reduceIte,Nat.reduceEqDiff,Nat.reduceAdd,Nat.reduceMul,hdm,hins]);try rfl) aQ (by (try simp (disch:=omega) only [go_sem,hdm,hins]);try rfl) aJ ?_|refine af ?_|refine dV ?_|refine aU ?_|refine kF (by rfl) (by rfl) (by (try simp (disch:=omega) only [go_sem,Int.reduceAdd,Int.reduceSub,Int.reduceMul,hdm,hins]);try rfl) ?_|refine jA (by rfl) aQ aJ ?_|refine ax ?_|refine ak ?_|refine ae ?_|refine gV ?_|refine jC (by rfl) ?_|refine aH ?_|refine iZ (by rfl) bQ aO aQ (by decide) (by (try simp (disch:=omega) only [go_sem,reduceIte,Nat.reduceEqDiff,Nat.reduceAdd,Nat.reduceMul,hdm,hins]);try rfl) iM ?_|refine yP (by rfl) aJ aO iM (by rfl) (by decide) bQ aO aQ (by (try simp (disch:=omega) only [go_sem,hdm,hins]);try rfl) aO ?_|refine cO ?_|refine bI dZ ?_|refine lI dZ (by rfl) aJ sK (by (try simp (disch:=omega) only [go_sem,reduceIte,Nat.reduceEqDiff,Nat.reduceAdd,Nat.reduceMul,hdm,hins]);try omega) bQ (by (try simp (disch:=omega) only [go_sem,reduceIte,Nat.reduceEqDiff,Nat.reduceAdd,Nat.reduceMul,hdm,hins]);try rfl) dZ (by omega) iC aQ (by (try simp (disch:=omega) only [go_sem,reduceIte,Nat.reduceEqDiff,Nat.reduceAdd,Nat.reduceMul,hdm,hins]);try rfl) aO ?_|refine qH (by rfl) (by rfl) (by exact eY rfl) aJ ⟨rfl,rfl⟩ (by (try simp (disch:=omega) only [go_sem,reduceIte,Nat.reduceEqDiff,Nat.reduceAdd,Nat.reduceMul,hdm,hins]);try rfl) (by rfl) ?_|refine qW (by rfl) aJ aJ lQ (by trivial) lQ (by exact eY rfl) ⟨rfl,rfl⟩ (by (try simp (disch:=omega) only [go_sem,reduceIte,Nat.reduceEqDiff,Nat.reduceAdd,Nat.reduceMul,hdm,hins]);try rfl) aO jk ?_)
       exact dS [0,1,5,8,39,40,41] (k+1,L'++[(y1,y2)],M'++[(y1,y2)]) ⟨hkl,had',by simp only [hl1,hl2];omega,by simp only [hl2];omega⟩ iH (by simp only [hl1];rfl)
     ·
      repeat (first|refine bu ?_|refine af ?_|refine aF ?_|refine ax ?_|refine ak ?_|refine ae ?_|refine aK ?_|refine aI ?_|refine bG ?_|refine dG ?_|refine bI dZ ?_)
      refine gJ bC bC (fun _ _ r=>r=.tup [pT (y1,y2),.bool true]) ?_
      repeat (first|refine ah ?_|refine gQ ?_|refine iG (by rfl) bQ (by (try simp (disch:=omega) only [go_sem,reduceIte,Nat.reduceEqDiff,Nat.reduceAdd,Nat.reduceMul,hat]);try rfl) aQ (by (try simp (disch:=omega) only [go_sem,hat]);try rfl) aJ ?_|refine aH ?_|refine iZ (by rfl) bQ aO aQ (by decide) (by (try simp (disch:=omega) only [go_sem,reduceIte,Nat.reduceEqDiff,Nat.reduceAdd,Nat.reduceMul,hat]);try rfl) iM ?_)
      refine jb bH dw hnx ⟨_,rfl,rfl⟩ ?_
      rintro _ rfl -
      simp only [pT,pC]
      refine ⟨bJ,_,_,_,_,_,gY,(by decide),bF,?_⟩
      repeat (first|refine ah ?_|refine aT ?_|refine dI ?_|refine aW ?_|refine af ?_|refine dV ?_|refine aU ?_|refine aS ?_|refine bM ?_|refine jA (by rfl) aQ aJ ?_|refine au ?_|refine ak ?_|refine ae ?_|refine gV ?_|refine aI ?_|refine aH ?_|refine dG ?_|refine bI dZ ?_)
      exact dS [0,1,5,8,39,40,41] (k+1,L',M') ⟨hkl,hsk (fun h=>absurd h ho),hm1,hm2⟩ iH rfl
   ·obtain rfl:k=R.length:=by omega
    have hd:=hwj.done hG hrow g3
    repeat (first|refine ah ?_|refine af ?_|refine aF ?_|refine bM ?_|refine bZ (by rfl) ?_|refine au ?_|refine ak ?_|refine ae ?_|refine gV ?_)
    exact dS [0,1,5,8] (i+1,L',M') ⟨hd,by simp only;omega⟩ iH rfl
  ·have hdone:=hwi.done (by omega)
   repeat (first|refine ah ?_|refine af ?_|refine aF ?_|refine fG (by rfl) ?_|refine bZ (by rfl) ?_|refine au ?_|refine ak ?_|refine ae ?_)
   refine ay ?_
   exact ⟨L,rfl,hdone,by omega⟩
end Go.Proofs.Ytlbdmpjnmfmnfaa
