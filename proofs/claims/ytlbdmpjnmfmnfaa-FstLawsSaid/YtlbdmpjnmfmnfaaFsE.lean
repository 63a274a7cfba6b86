import Derived.Test.YtlbdmpjnmfmnfaaFsW
import Derived.Test.YtlbdmpjnmfmnfaaFsV
set_option linter.unusedSimpArgs false
set_option linter.unusedVariables false
namespace Go.Proofs.Ytlbdmpjnmfmnfaa
open Go.RowKit Go.HL Go.FS
theorem ins_nodup {M:List Nd} {x:Nd} (h:M.Nodup):(ins x M).Nodup:=by
 unfold ins
 split
 ·exact h
 ·rename_i hx
  rw [List.nodup_append]
  exact ⟨h,by simp,fun a ha b hb e=>by simp at hb;subst hb;exact hx (e▸ha)⟩
theorem TB (x:Nd) (M:List Nd):(ins x M).length<=M.length+1:=by
 unfold ins;split<;>simp
set_option maxHeartbeats 8000000 in
theorem CQ (fin:List Bool) (al:List A) (w:List Int) (G S:List Nd) (hv:okF fin al=true) (hw:w.length<=1024) (hG:∀x,x∈G <-> FS.Good fin al w x) (hGl:G.length<=4194304) (hS:∀x∈S,FS.Good fin al w x) (hSl:S.length<=8388608) :
  HTM Try.prog 55 [.ptr (runT w (bT (·.f) fin.length al) G) 0,.osl 2 S.length (uV S)] (fun r=>∃L,r=.osl 2 L.length (uV L)/\(∀x,x∈L <-> Cl fin al w (·∈S) x)/\L.length<=S.length+G.length):=by
 obtain ⟨h1,h2,h3⟩:=dR hv
 have hfl:=iY (·.f) fin.length al
 have hrf:∀i:Nat,i<fin.length->(bT (·.f) fin.length al).getD i []=al.filter fun a=>a.f==(i:Int):=fun i hi=>lu _ _ hi
 generalize hLF:bT (·.f) fin.length al=LF at hfl hrf
 refine HTM.of rfl adU (Nat.le_of_ble_eq_true rfl) (⟨[(0,.ptr (runT w LF G) 0),(1,.ref 0 [] 2 0 S.length)],[(0,.osl 2 S.length (uV S))],1⟩:St) rfl ?_
 unfold c55
 simp only [runT]
 repeat (first|refine ah ?_|refine af ?_|refine fF (by rfl) ?_|refine ak ?_|refine ae ?_|refine aB ?_|refine bU ?_|refine vJ eH ?_)
 refine cu [0,1,5,14,15,16] (fun s:Nat×List Nd=>s.1<=S.length/\s.2.Nodup/\s.2.length<=s.1/\∀x,x∈s.2 <-> x∈S.take s.1)
  (fun s=>⟨[(0,.ptr [.sl w.length (HL.ints w),.sl LF.length (fO LF),.rmap ⟨.ints 2,none⟩ (G.map pk) (lX G.length)] 0),(1,.ref 0 [] 2 0 S.length),(5,.mref 1 []),(14,.ref 0 [] 2 0 S.length),(15,.int .i64 S.length),(16,.int .i64 s.1)],[(0,.osl 2 S.length (uV S)),(1,.omap ⟨.ints 2,none⟩ (s.2.map pk) (lX s.2.length))],2⟩)
  (fun s=>S.length - s.1) (0,[]) ⟨by simp,by simp,by simp,by simp⟩ rfl ?_
 rintro ⟨k,M⟩ ⟨hk,hM,hMl,hMm⟩
 simp only at hk hM hMl hMm ⊢
 by_cases hkl:k<S.length
 ·have htk:=dw hkl
  repeat (first|refine ah ?_|refine gG ?_|refine af ?_|refine az ?_|refine bH ?_|refine ax ?_|refine ak ?_|refine ae ?_|refine aB ?_|refine fK ?_|refine aF ?_|refine fJ ?_|refine dK ?_|refine bP eH ?_|refine qR (by rfl) aV aV mJ (by trivial) mJ (by exact eY rfl) ⟨rfl,rfl⟩ Ph aP jM ?_)
  refine dB [0,1,5,14,15,16] (k+1,ins (S.getD k default) M) ⟨hkl,ins_nodup hM,by have:=TB (S.getD k default) M;simp only;omega,fun x=>?_⟩ jh rfl
  simp only [mem_ins,htk,List.mem_append,List.mem_singleton,hMm]
  exact or_comm
 ·obtain rfl:k=S.length:=by omega
  rw [List.take_length] at hMm
  have hwi:=WI.start (fin:=fin) (al:=al) (w:=w) hM hMm
  repeat (first|refine ah ?_|refine af ?_|refine az ?_|refine bK (by rfl) ?_|refine au ?_|refine ak ?_|refine ae ?_|refine aB ?_)
  refine cu [0,1,5,8] (fun s:Nat×List Nd×List Nd=>WI fin al w S s.1 s.2.1 s.2.2/\s.1<=s.2.1.length)
   (fun s=>⟨[(0,.ptr [.sl w.length (HL.ints w),.sl LF.length (fO LF),.rmap ⟨.ints 2,none⟩ (G.map pk) (lX G.length)] 0),(1,.ref 0 [] 2 0 s.2.1.length),(5,.mref 1 []),(8,.int .i64 s.1)],[(0,.osl 2 s.2.1.length (uV s.2.1)),(1,.omap ⟨.ints 2,none⟩ (s.2.2.map pk) (lX s.2.2.length))],2⟩)
   (fun s=>(G.length - s.2.2.length)+(s.2.1.length - s.1)) (0,S,M) ⟨hwi,by simp⟩ rfl ?_
  rintro ⟨i,L,M⟩ ⟨hwi,hil⟩
  simp only at hwi hil ⊢
  have hcard:=hwi.card hG hS
  have hlen:=hwi.len
  by_cases hi:i<L.length
  ·have hvm:L.getD i default∈L:=by rw [List.getD_eq_getElem?_getD,List.getElem?_eq_getElem hi];exact List.getElem_mem _
   have hvg:=Jv hS (hwi.sub _ hvm)
   obtain ⟨g1,g2,g3,g4⟩:=wB (fun a ha=>by have:=dh hv ha;omega) hvg
   have hrow:=hrf (L.getD i default).1.toNat (by omega)
   rw [show (((L.getD i default).1.toNat:Nat):Int)=(L.getD i default).1 by omega] at hrow
   have hrl:(LF.getD (L.getD i default).1.toNat []).length<=al.length:=by rw [hrow];exact List.length_filter_le _ _
   have hwj:=WI.begin (G:=G) (R:=LF.getD (L.getD i default).1.toNat []) hwi hi
   repeat (first|refine ah ?_|refine af ?_|refine az ?_|refine fF (by rfl) ?_|refine ax ?_|refine ak ?_|refine ae ?_|refine aB ?_|refine aF ?_)
   refine gu aT aT (fun _ _ _=>False) ?_
   repeat (first|refine ah ?_|refine aU ?_|refine gG ?_|refine bZ ?_|refine aZ ?_|refine af ?_|refine aQ ?_|refine aB ?_|refine dE ?_|refine aI ?_|refine iE aV rfl ?_)
   generalize hR:LF.getD (L.getD i default).1.toNat []=R at hrow hrl hwj
   generalize hve:L.getD i default=v at hrow hwj g1 g2 g3 g4
   refine cu [0,1,5,8,39,40,41] (fun s:Nat×List Nd×List Nd=>s.1<=R.length/\WJ fin al w G S i v R s.1 s.2.1 s.2.2/\s.2.1.length+M.length=L.length+s.2.2.length/\M.length<=s.2.2.length)
    (fun s=>⟨[(0,.ptr [.sl w.length (HL.ints w),.sl LF.length (fO LF),.rmap ⟨.ints 2,none⟩ (G.map pk) (lX G.length)] 0),(1,.ref 0 [] 2 0 s.2.1.length),(5,.mref 1 []),(8,.int .i64 i),(39,.sl R.length (recs aC R)),(40,.int .i64 R.length),(41,.int .i64 s.1)],[(0,.osl 2 s.2.1.length (uV s.2.1)),(1,.omap ⟨.ints 2,none⟩ (s.2.2.map pk) (lX s.2.2.length))],2⟩)
    (fun s=>R.length - s.1) (0,L,M) ⟨by simp,hwj,by simp,by simp⟩ rfl ?_
   rintro ⟨k,L',M'⟩ ⟨hk,hwj,hm1,hm2⟩
   simp only at hk hwj hm1 hm2 ⊢
   have hcard':=hwj.wi.card hG hS
   have hlen':=hwj.wi.len
   have hat:=hwj.at_
   have hil':=hwj.lt
   by_cases hkl:k<R.length
   ·have hnx:=Jw w LF G (R.getD k default) v.2 g3 hw g4
    have hsk:=hwj.skip hkl
    have had:=fun y=>hwj.add hG hrow g3 hkl (y:=y)
    obtain ⟨y,b,hy⟩:∃y b,jI w G (R.getD k default) v.2=(y,b):=⟨_,_,rfl⟩
    rw [hy] at hnx hsk had
    simp only [runT,aC] at hnx
    obtain ⟨y1,y2⟩:=y
    cases b with
    | false =>
     repeat (first|refine aU ?_|refine af ?_|refine az ?_|refine ax ?_|refine ak ?_|refine ae ?_|refine aB ?_|refine aF ?_|refine bn ?_|refine dK ?_|refine bP eH ?_)
     refine gu aT aT (fun _ _ r=>r=.tup [pT (y1,y2),.bool false]) ?_
     repeat (first|refine ah ?_|refine gG ?_|refine gJ (by rfl) bV (by (try simp (disch:=omega) only [go_sem,reduceIte,Nat.reduceEqDiff,Nat.reduceAdd,Nat.reduceMul,hat]);try rfl) aW (by (try simp (disch:=omega) only [go_sem,hat]);try rfl) aV ?_|refine aI ?_|refine jF (by rfl) bV aP aW (by decide) (by (try simp (disch:=omega) only [go_sem,reduceIte,Nat.reduceEqDiff,Nat.reduceAdd,Nat.reduceMul,hat]);try rfl) ja ?_)
     refine dO bz bW hnx ⟨_,rfl,rfl⟩ ?_
     rintro _ rfl -
     simp only [pT,pC]
     refine ⟨bG,_,_,_,_,_,fU,(by decide),bu,?_⟩
     repeat (first|refine ah ?_|refine dH ?_|refine af ?_|refine aO ?_|refine bH ?_|refine dJ ?_|refine au ?_|refine ak ?_|refine ae ?_|refine fK ?_|refine aF ?_|refine dK ?_|refine bP eH ?_)
     exact dB [0,1,5,8,39,40,41] (k+1,L',M') ⟨hkl,hsk (fun _ _ h=>by simp at h),hm1,hm2⟩ jh rfl
    | true =>
     by_cases ho:(R.getD k default).o = -1
     ·by_cases hmem:(y1,y2)∈M'
      ·have hdm:decide ((y1,y2)∈M')=true:=decide_eq_true hmem
       repeat (first|refine aU ?_|refine af ?_|refine az ?_|refine ax ?_|refine ak ?_|refine ae ?_|refine aB ?_|refine aF ?_|refine bn ?_|refine dK ?_|refine bP eH ?_)
       refine gu aT aT (fun _ _ r=>r=.tup [pT (y1,y2),.bool true]) ?_
       repeat (first|refine ah ?_|refine gG ?_|refine gJ (by rfl) bV (by (try simp (disch:=omega) only [go_sem,reduceIte,Nat.reduceEqDiff,Nat.reduceAdd,Nat.reduceMul,hat]);try rfl) aW (by (try simp (disch:=omega) only [go_sem,hat]);try rfl) aV ?_|refine aI ?_|refine jF (by rfl) bV aP aW (by decide) (by (try simp (disch:=omega) only [go_sem,reduceIte,Nat.reduceEqDiff,Nat.reduceAdd,Nat.reduceMul,hat]);try rfl) ja ?_)
       refine dO bz bW hnx ⟨_,rfl,rfl⟩ ?_
       rintro _ rfl -
       simp only [pT,pC]
       refine ⟨bG,_,_,_,_,_,fU,(by decide),bu,?_⟩
       repeat (first|refine ah ?_|refine aK ?_|refine gJ (by rfl) bV (by (try simp (disch:=omega) only [go_sem,reduceIte,Nat.reduceEqDiff,Nat.reduceAdd,Nat.reduceMul,hdm]);try rfl) aW (by (try simp (disch:=omega) only [go_sem,hdm]);try rfl) aV ?_|refine af ?_|refine dX ?_|refine aS ?_|refine jL (by rfl) (by rfl) (by (try simp (disch:=omega) only [go_sem,Int.reduceAdd,Int.reduceSub,Int.reduceMul,hdm]);try rfl) ?_|refine dJ ?_|refine au ?_|refine ak ?_|refine ae ?_|refine fK ?_|refine aF ?_|refine gW (by rfl) ?_|refine aI ?_|refine jF (by rfl) bV aP aW (by decide) (by (try simp (disch:=omega) only [go_sem,reduceIte,Nat.reduceEqDiff,Nat.reduceAdd,Nat.reduceMul,hdm]);try rfl) ja ?_|refine uy (by rfl) aV aP ja (by rfl) (by decide) bV aP aW (by (try simp (disch:=omega) only [go_sem,hdm]);try rfl) aP ?_|refine bP eH ?_|refine qI (by rfl) (by rfl) (by exact eY rfl) aV ⟨rfl,rfl⟩ (by (try simp (disch:=omega) only [go_sem,reduceIte,Nat.reduceEqDiff,Nat.reduceAdd,Nat.reduceMul,hdm]);try rfl) (by rfl) ?_)
       exact dB [0,1,5,8,39,40,41] (k+1,L',M') ⟨hkl,hsk (fun _ y h=>by simp only [Prod.mk.injEq,and_true] at h;rw [<- h];exact (hwj.wi.mem _).1 hmem),hm1,hm2⟩ jh rfl
      ·have hdm:decide ((y1,y2)∈M')=false:=decide_eq_false hmem
       have hins:ins (y1,y2) M'=M'++[(y1,y2)]:=by unfold ins;rw [if_neg hmem]
       have had':=had (y1,y2) ho rfl (fun h=>hmem ((hwj.wi.mem _).2 h))
       have hl1:(L'++[(y1,y2)]).length=L'.length+1:=by simp
       have hl2:(M'++[(y1,y2)]).length=M'.length+1:=by simp
       repeat (first|refine aU ?_|refine af ?_|refine az ?_|refine ax ?_|refine ak ?_|refine ae ?_|refine aB ?_|refine aF ?_|refine bn ?_|refine dK ?_|refine bP eH ?_)
       refine gu aT aT (fun _ _ r=>r=.tup [pT (y1,y2),.bool true]) ?_
       repeat (first|refine ah ?_|refine gG ?_|refine gJ (by rfl) bV (by (try simp (disch:=omega) only [go_sem,reduceIte,Nat.reduceEqDiff,Nat.reduceAdd,Nat.reduceMul,hat]);try rfl) aW (by (try simp (disch:=omega) only [go_sem,hat]);try rfl) aV ?_|refine aI ?_|refine jF (by rfl) bV aP aW (by decide) (by (try simp (disch:=omega) only [go_sem,reduceIte,Nat.reduceEqDiff,Nat.reduceAdd,Nat.reduceMul,hat]);try rfl) ja ?_)
       refine dO bz bW hnx ⟨_,rfl,rfl⟩ ?_
       rintro _ rfl -
       simp only [pT,pC]
       refine ⟨bG,_,_,_,_,_,fU,(by decide),bu,?_⟩
       repeat (first|refine ah ?_|refine aK ?_|refine gJ (by rfl) bV (by (try simp (disch:=omega) only [go_sem,reduceIte,Nat.reduceEqDiff,Nat.reduceAdd,Nat.reduceMul,hdm,hins]);try rfl) aW (by (try simp (disch:=omega) only [go_sem,hdm,hins]);try rfl) aV ?_|refine af ?_|refine dX ?_|refine aS ?_|refine jL (by rfl) (by rfl) (by (try simp (disch:=omega) only [go_sem,Int.reduceAdd,Int.reduceSub,Int.reduceMul,hdm,hins]);try rfl) ?_|refine dJ ?_|refine ax ?_|refine ak ?_|refine ae ?_|refine fK ?_|refine iI (by rfl) ?_|refine aI ?_|refine jF (by rfl) bV aP aW (by decide) (by (try simp (disch:=omega) only [go_sem,reduceIte,Nat.reduceEqDiff,Nat.reduceAdd,Nat.reduceMul,hdm,hins]);try rfl) ja ?_|refine uy (by rfl) aV aP ja (by rfl) (by decide) bV aP aW (by (try simp (disch:=omega) only [go_sem,hdm,hins]);try rfl) aP ?_|refine bQ ?_|refine bP eH ?_|refine lD eH (by rfl) aV uS (by (try simp (disch:=omega) only [go_sem,reduceIte,Nat.reduceEqDiff,Nat.reduceAdd,Nat.reduceMul,hdm,hins]);try omega) bV (by (try simp (disch:=omega) only [go_sem,reduceIte,Nat.reduceEqDiff,Nat.reduceAdd,Nat.reduceMul,hdm,hins]);try rfl) eH (by omega) iU aW (by (try simp (disch:=omega) only [go_sem,reduceIte,Nat.reduceEqDiff,Nat.reduceAdd,Nat.reduceMul,hdm,hins]);try rfl) aP ?_|refine qI (by rfl) (by rfl) (by exact eY rfl) aV ⟨rfl,rfl⟩ (by (try simp (disch:=omega) only [go_sem,reduceIte,Nat.reduceEqDiff,Nat.reduceAdd,Nat.reduceMul,hdm,hins]);try rfl) (by rfl) ?_|refine qR (by rfl) aV aV mJ (by trivial) mJ (by exact eY rfl) ⟨rfl,rfl⟩ (by (try simp (disch:=omega) only [go_sem,reduceIte,Nat.reduceEqDiff,Nat.reduceAdd,Nat.reduceMul,hdm,hins]);try rfl) aP jM ?_)
       exact dB [0,1,5,8,39,40,41] (k+1,L'++[(y1,y2)],M'++[(y1,y2)]) ⟨hkl,had',by simp only [hl1,hl2];omega,by simp only [hl2];omega⟩ jh (by simp only [hl1];rfl)
     ·
      repeat (first|refine aU ?_|refine af ?_|refine az ?_|refine ax ?_|refine ak ?_|refine ae ?_|refine aB ?_|refine aF ?_|refine bn ?_|refine dK ?_|refine bP eH ?_)
      refine gu aT aT (fun _ _ r=>r=.tup [pT (y1,y2),.bool true]) ?_
      repeat (first|refine ah ?_|refine gG ?_|refine gJ (by rfl) bV (by (try simp (disch:=omega) only [go_sem,reduceIte,Nat.reduceEqDiff,Nat.reduceAdd,Nat.reduceMul,hat]);try rfl) aW (by (try simp (disch:=omega) only [go_sem,hat]);try rfl) aV ?_|refine aI ?_|refine jF (by rfl) bV aP aW (by decide) (by (try simp (disch:=omega) only [go_sem,reduceIte,Nat.reduceEqDiff,Nat.reduceAdd,Nat.reduceMul,hat]);try rfl) ja ?_)
      refine dO bz bW hnx ⟨_,rfl,rfl⟩ ?_
      rintro _ rfl -
      simp only [pT,pC]
      refine ⟨bG,_,_,_,_,_,fU,(by decide),bu,?_⟩
      repeat (first|refine ah ?_|refine aK ?_|refine dH ?_|refine aZ ?_|refine af ?_|refine dX ?_|refine aS ?_|refine aO ?_|refine bH ?_|refine dJ ?_|refine au ?_|refine ak ?_|refine ae ?_|refine fK ?_|refine aF ?_|refine aI ?_|refine dK ?_|refine bP eH ?_)
      exact dB [0,1,5,8,39,40,41] (k+1,L',M') ⟨hkl,hsk (fun h=>absurd h ho),hm1,hm2⟩ jh rfl
   ·obtain rfl:k=R.length:=by omega
    have hd:=hwj.done hG hrow g3
    repeat (first|refine ah ?_|refine af ?_|refine az ?_|refine bH ?_|refine bK (by rfl) ?_|refine au ?_|refine ak ?_|refine ae ?_|refine fK ?_)
    exact dB [0,1,5,8] (i+1,L',M') ⟨hd,by simp only;omega⟩ jh rfl
  ·have hdone:=hwi.done (by omega)
   repeat (first|refine ah ?_|refine af ?_|refine az ?_|refine fF (by rfl) ?_|refine bK (by rfl) ?_|refine au ?_|refine ak ?_|refine ae ?_)
   refine ay ?_
   exact ⟨L,rfl,hdone,by omega⟩
end Go.Proofs.Ytlbdmpjnmfmnfaa
