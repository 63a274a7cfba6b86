import Derived.Test.YteamkjblpglliaaClNet
import Derived.Test.YteamkjblpglliaaClBnd
section
set_option linter.unusedSimpArgs false
set_option linter.unusedVariables false
namespace Go.Proofs.Yteamkjblpglliaa
open Go.RowKit Go.SL Go.HL
set_option maxHeartbeats 8000000 in
theorem N8 (w:List Int) (nd:List (List Nat)) (bad:List Bool) (g:Gr nd bad) (hw:WOK w) (hl:w.length=nd.length):HT Try.prog 65 [I w,Gs (nd.map nl)] (fun r=>r=.tup [.int .i64 ((nd.length:Int)+2),.osl 3 (iQ w nd).length (edges (iQ w nd))]):=by
 have hsz:=g.size
 have hnl:(nd.map nl).length=nd.length:=by simp
 have hNl:=kU g w
 have hN2:nd.length * nd.length<=256 * 256:=Nat.mul_le_mul hsz hsz
 have hvw:=VW.of g hw hl
 have hcv:=qW w (nd.map nl) (by omega) (by omega) (fun i=>by rw [dM,fE];have:=g.len i;omega)
 simp only [Gs,I] at hcv
 rw [hnl,hl] at hcv
 refine HT.of rfl aeL (Nat.le_of_ble_eq_true rfl) ?_
 unfold c65
 simp only [Gs,I,aO,Nat.reduceAdd]
 rw [hnl,hl]
 repeat (first|refine ah ?_|refine ag ?_|refine ak ?_|refine ae ?_|refine fM rfl (by rfl) gY ?_)
 refine bg aK dO (hcv) ?_
 rintro _ ⟨b,rfl,hb⟩
 obtain rfl:b=true:=hb.2 hvw
 refine ⟨dF,_,_,_,_,_,dA,(by decide),aQ,?_⟩
 repeat (first|refine ah ?_|refine ag ?_|refine aG ?_|refine au ?_|refine ak ?_|refine ae ?_|refine aC ?_|refine aB ?_|refine fM rfl (by rfl) gY ?_|refine fD (by rfl) ?_)
 refine bH [0,1,6,7,8] (fun s:Nat×List Edge=>s.1<=nd.length/\s.2=iy nd.length w s.1)
  (fun s=>⟨[(0,.sl nd.length (HL.ints w)),(1,.sl nd.length (bf (nd.map nl))),(6,.int .i64 nd.length),(7,.ref 0 [] 3 0 s.2.length),(8,.int .i64 s.1)],[(0,.osl 3 s.2.length (edges s.2))],1⟩)
  (fun s=>nd.length - s.1) (0,[]) ⟨by simp,rfl⟩ rfl ?_
 rintro ⟨i,es⟩ ⟨hi,hes⟩
 simp only at hi hes ⊢
 have hel:es.length<=i:=by rw [hes];exact kE _ _ _
 by_cases hin:i < nd.length
 ·obtain ⟨x,hx⟩:∃x,w.getD i 0=x:=⟨_,rfl⟩
  have hxr:=hw i
  rw [hx] at hxr
  have hnx:es ++ pU nd.length i x=iy nd.length w (i+1):=by rw [hes,<- hx];rfl
  by_cases hp:0 < x
  ·have hsn:es ++ [⟨nd.length,i,x⟩]=iy nd.length w (i+1):=by rw [<- hnx];unfold pU;rw [if_pos hp]
   repeat (first|refine ah ?_|refine aN ?_|refine bK (by rfl) aV (by (try simp (disch:=omega) only [go_sem,hx]);try rfl) ?_|refine ag ?_|refine az ?_|refine dn (by rfl) (by rfl) (by (try simp (disch:=omega) only [go_sem,Int.reduceAdd,Int.reduceSub,Int.reduceMul,hx]);try rfl) ?_|refine ax ?_|refine au ?_|refine ak ?_|refine ae ?_|refine aC ?_|refine dm ?_|refine aB ?_|refine bu ?_|refine dS ?_|refine jC gY (by rfl) gy Et (by (try simp (disch:=omega) only [go_sem,reduceIte,Nat.reduceEqDiff,Nat.reduceAdd,Nat.reduceMul,hx]);try omega) dK (by (try simp (disch:=omega) only [go_sem,reduceIte,Nat.reduceEqDiff,Nat.reduceAdd,Nat.reduceMul,hx]);try rfl) gY (by omega) kQ aV (by (try simp (disch:=omega) only [go_sem,reduceIte,Nat.reduceEqDiff,Nat.reduceAdd,Nat.reduceMul,hx]);try rfl) di ?_|refine pI pJ pO (by simp [jf]) ?_)
   exact bQ [0,1,6,7,8] (i+1,es ++ [⟨nd.length,i,x⟩]) ⟨hin,hsn⟩ fC (by simp only [List.length_append,List.length_cons,List.length_nil,Nat.zero_add];rfl)
  ·by_cases hm:x < 0
   ·have hsn:es ++ [⟨i,(nd.length:Int)+1,0 - x⟩]=iy nd.length w (i+1):=by rw [<- hnx];unfold pU;rw [if_neg hp,if_pos hm,Int.zero_sub]
    repeat (first|refine ah ?_|refine aN ?_|refine bK (by rfl) aV (by (try simp (disch:=omega) only [go_sem,hx]);try rfl) ?_|refine ag ?_|refine az ?_|refine dn (by rfl) (by rfl) (by (try simp (disch:=omega) only [go_sem,Int.reduceAdd,Int.reduceSub,Int.reduceMul,hx]);try rfl) ?_|refine ax ?_|refine au ?_|refine ak ?_|refine ae ?_|refine aC ?_|refine dm ?_|refine aB ?_|refine bu ?_|refine Ea (by rfl) (by (try simp (disch:=omega) only [go_sem,Int.reduceAdd,Int.reduceSub,Int.reduceMul,hx]);try rfl) ?_|refine dS ?_|refine jC gY (by rfl) gy Et (by (try simp (disch:=omega) only [go_sem,reduceIte,Nat.reduceEqDiff,Nat.reduceAdd,Nat.reduceMul,hx]);try omega) dK (by (try simp (disch:=omega) only [go_sem,reduceIte,Nat.reduceEqDiff,Nat.reduceAdd,Nat.reduceMul,hx]);try rfl) gY (by omega) kQ aV (by (try simp (disch:=omega) only [go_sem,reduceIte,Nat.reduceEqDiff,Nat.reduceAdd,Nat.reduceMul,hx]);try rfl) di ?_|refine pI pJ pO (by simp [jf]) ?_)
    exact bQ [0,1,6,7,8] (i+1,es ++ [⟨i,(nd.length:Int)+1,0 - x⟩]) ⟨hin,hsn⟩ fC (by simp only [List.length_append,List.length_cons,List.length_nil,Nat.zero_add];rfl)
   ·have hsn:es=iy nd.length w (i+1):=by rw [<- hnx];unfold pU;rw [if_neg hp,if_neg hm,List.append_nil]
    repeat (first|refine ah ?_|refine aN ?_|refine bK (by rfl) aV (by (try simp (disch:=omega) only [go_sem,hx]);try rfl) ?_|refine ag ?_|refine az ?_|refine dn (by rfl) (by rfl) (by (try simp (disch:=omega) only [go_sem,Int.reduceAdd,Int.reduceSub,Int.reduceMul,hx]);try rfl) ?_|refine ax ?_|refine au ?_|refine ak ?_|refine ae ?_|refine aC ?_|refine dm ?_|refine aB ?_|refine bu ?_)
    exact bQ [0,1,6,7,8] (i+1,es) ⟨hin,hsn⟩ fC rfl
 ·obtain rfl:i=nd.length:=by omega
  obtain ⟨W,hW⟩:∃W,iy nd.length w nd.length=W:=⟨_,rfl⟩
  have hWl:W.length<=nd.length:=by rw [<- hW];exact kE _ _ _
  have hnet:iQ w nd=W ++ iI nd nd.length:=by unfold iQ;rw [hW]
  rw [hW] at hes
  subst hes
  repeat (first|refine ah ?_|refine ag ?_|refine az ?_|refine bz (by rfl) ?_|refine au ?_|refine ak ?_|refine ae ?_|refine aC ?_)
  refine bH [1,6,7,9] (fun s:Nat×List Edge=>s.1<=nd.length/\s.2=es ++ iI nd s.1)
   (fun s=>⟨[(1,.sl nd.length (bf (nd.map nl))),(6,.int .i64 nd.length),(7,.ref 0 [] 3 0 s.2.length),(9,.int .i64 s.1)],[(0,.osl 3 s.2.length (edges s.2))],1⟩)
   (fun s=>nd.length - s.1) (0,es) ⟨by simp,by simp [iI]⟩ rfl ?_
  rintro ⟨i,fs⟩ ⟨hi,hfs⟩
  simp only at hi hfs ⊢
  have hNi:=oH g i hi
  have hfl:fs.length<=70000:=by
   rw [hfs,List.length_append]
   have:i * nd.length<=256 * 256:=Nat.mul_le_mul (by omega) hsz
   omega
  by_cases hin:i < nd.length
  ·obtain ⟨row,hrow⟩:∃row,nd.getD i []=row:=⟨_,rfl⟩
   have hrl:row.length<=nd.length:=by rw [<- hrow];exact g.len i
   have hrlt:∀x∈row,x < nd.length:=by rw [<- hrow];exact g.lt i
   have hnr:=fE row
   repeat (first|refine ah ?_|refine ag ?_|refine az ?_|refine ax ?_|refine ak ?_|refine ae ?_|refine aC ?_|refine aB ?_)
   refine bH [1,6,7,9,10] (fun s:Nat×List Edge=>s.1<=row.length/\s.2=fs ++ iJ i row s.1)
    (fun s=>⟨[(1,.sl nd.length (bf (nd.map nl))),(6,.int .i64 nd.length),(7,.ref 0 [] 3 0 s.2.length),(9,.int .i64 i),(10,.int .i64 s.1)],[(0,.osl 3 s.2.length (edges s.2))],1⟩)
    (fun s=>row.length - s.1) (0,fs) ⟨by simp,by simp [iJ]⟩ rfl ?_
   rintro ⟨k,hs⟩ ⟨hk,hhs⟩
   simp only at hk hhs ⊢
   have hkl0:=qF i row k
   have hsl:hs.length<=71000:=by rw [hhs,List.length_append];omega
   by_cases hkl:k < row.length
   ·obtain ⟨v,hv⟩:∃v,row.getD k 0=v:=⟨_,rfl⟩
    have hvn:v < nd.length:=by rw [<- hv];exact hrlt _ (getD_mem row _ 0 hkl)
    have hnx:hs ++ tq i v=fs ++ iJ i row (k+1):=by rw [hhs,<- hv,List.append_assoc];rfl
    by_cases hvi:v=i
    ·subst hvi
     have hsn:hs=fs ++ iJ v row (k+1):=by rw [<- hnx];unfold tq;rw [if_pos rfl,List.append_nil]
     repeat (first|refine ah ?_|refine aN ?_|refine bK (by rfl) aV (by (try simp (disch:=omega) only [go_sem,dM,hrow,hv]);try rfl) ?_|refine ag ?_|refine az ?_|refine aY ?_|refine dn (by rfl) (by rfl) (by (try simp (disch:=omega) only [go_sem,Int.reduceAdd,Int.reduceSub,Int.reduceMul,dM,hrow,hv]);try rfl) ?_|refine aG ?_|refine ax ?_|refine au ?_|refine ak ?_|refine ae ?_|refine aC ?_|refine dm ?_|refine aB ?_)
     exact bQ [1,6,7,9,10] (k+1,hs) ⟨hkl,hsn⟩ fC rfl
    ·have hsn:hs ++ [⟨i,v,1099511627776⟩]=fs ++ iJ i row (k+1):=by rw [<- hnx];unfold tq;rw [if_neg hvi]
     repeat (first|refine ah ?_|refine aN ?_|refine bK (by rfl) aV (by (try simp (disch:=omega) only [go_sem,dM,hrow,hv]);try rfl) ?_|refine ag ?_|refine az ?_|refine aY ?_|refine dn (by rfl) (by rfl) (by (try simp (disch:=omega) only [go_sem,Int.reduceAdd,Int.reduceSub,Int.reduceMul,dM,hrow,hv]);try rfl) ?_|refine aG ?_|refine ax ?_|refine ak ?_|refine ae ?_|refine aC ?_|refine dm ?_|refine aB ?_|refine dS ?_|refine jC gY (by rfl) gy Et (by (try simp (disch:=omega) only [go_sem,reduceIte,Nat.reduceEqDiff,Nat.reduceAdd,Nat.reduceMul,dM,hrow,hv]);try omega) dK (by (try simp (disch:=omega) only [go_sem,reduceIte,Nat.reduceEqDiff,Nat.reduceAdd,Nat.reduceMul,dM,hrow,hv]);try rfl) gY (by omega) kQ aV (by (try simp (disch:=omega) only [go_sem,reduceIte,Nat.reduceEqDiff,Nat.reduceAdd,Nat.reduceMul,dM,hrow,hv]);try rfl) di ?_|refine pI pJ pO (by simp [jf]) ?_)
     exact bQ [1,6,7,9,10] (k+1,hs ++ [⟨i,v,1099511627776⟩]) ⟨hkl,hsn⟩ fC (by simp only [List.length_append,List.length_cons,List.length_nil,Nat.zero_add];rfl)
   ·obtain rfl:k=row.length:=by omega
    have hsn:hs=es ++ iI nd (i+1):=by rw [hhs,hfs,List.append_assoc,<- hrow];rfl
    repeat (first|refine ah ?_|refine aN ?_|refine bK (by rfl) aV (by (try simp (disch:=omega) only [go_sem,dM,hrow]);try rfl) ?_|refine ag ?_|refine az ?_|refine dn (by rfl) (by rfl) (by (try simp (disch:=omega) only [go_sem,Int.reduceAdd,Int.reduceSub,Int.reduceMul,dM,hrow]);try rfl) ?_|refine aG ?_|refine bz (by rfl) ?_|refine au ?_|refine ak ?_|refine ae ?_|refine dm ?_)
    exact bQ [1,6,7,9] (i+1,hs) ⟨hin,hsn⟩ fC rfl
  ·obtain rfl:i=nd.length:=by omega
   repeat (first|refine ah ?_|refine ag ?_|refine az ?_|refine bM ?_|refine bz (by rfl) ?_|refine au ?_|refine ak ?_|refine ae ?_)
   refine ay ?_
   rw [hnet,<- hfs]
   rfl
end Go.Proofs.Yteamkjblpglliaa
end
section
set_option linter.unusedSimpArgs false
set_option linter.unusedVariables false
namespace Go.Proofs.Yteamkjblpglliaa
open Go.RowKit Go.SL Go.HL
set_option maxHeartbeats 8000000 in
theorem I9 (w:List Int) (nd:List (List Nat)) (bad:List Bool) (fl:List Int) (g:Gr nd bad) (hw:WOK w) (hl:w.length=nd.length):HT Try.prog 45 [I w,Gs (nd.map nl),I fl] (fun r=>∃x y,r=.tup [.int .i64 x,.int .i64 y]/\BoundR w nd fl x y):=by
 have hsz:=g.size
 have hnl:(nd.map nl).length=nd.length:=by simp
 have hNl:=kU g w
 have hN2:nd.length * nd.length<=256 * 256:=Nat.mul_le_mul hsz hsz
 have hv:=mM g hw
 have hnet:=N8 w nd bad g hw hl
 have hcv:=qW w (nd.map nl) (by omega) (by omega) (fun i=>by rw [dM,fE];have:=g.len i;omega)
 simp only [Gs,I] at hnet hcv
 rw [hnl,hl] at hnet hcv
 have h21:(nd.length:Int)+2 - 2=nd.length:=by omega
 have h22:(nd.length:Int)+2 - 1=nd.length+1:=by omega
 refine HT.of rfl aeV (Nat.le_of_ble_eq_true rfl) ?_
 unfold c45
 simp only [Gs,I,aO,Nat.reduceAdd]
 rw [hnl,hl]
 repeat (first|refine ah ?_|refine ag ?_|refine ak ?_|refine ae ?_)
 refine bg aK dO (hcv) ?_
 rintro _ ⟨b,rfl,hb⟩
 obtain rfl:b=true:=hb.2 (VW.of g hw hl)
 refine ⟨dF,_,_,_,_,_,dA,(by decide),aQ,?_⟩
 repeat (first|refine ah ?_|refine ag ?_|refine au ?_|refine ak ?_|refine ae ?_|refine aB ?_|refine fD (by rfl) ?_)
 refine bg aK dO (hnet) ?_
 rintro _ rfl
 refine ⟨dF,_,_,_,_,_,dA,(by decide),aQ,?_⟩
 repeat (first|refine ah ?_|refine ag ?_|refine cu ?_|refine ak ?_|refine ae ?_|refine ig (by rfl) (by rfl) (by (try simp (disch:=omega) only [go_sem,Int.reduceAdd,Int.reduceSub,Int.reduceMul,h21,h22]);try rfl) ?_)
 by_cases hfl:fl.length=(iQ w nd).length
 ·have hck:=IV (nd.length+2) nd.length (nd.length+1) (iQ w nd) fl hv hfl
  simp only [Es,I,Int.natCast_add,Int.cast_ofNat_Int] at hck
  refine bg aK dO (hck) ?_
  rintro _ ⟨v,e,rfl,hR⟩
  have hbd:=hR.bd (fun e he=>(hv.all e he).2.2.2.2.2.2) (by omega)
  have hE:e=0\/e=5\/e=24:=by
   rcases hR with ⟨_,_,h⟩|⟨_,_,_,h⟩|⟨_,_,_,h⟩ <;> omega
  refine ⟨dF,_,_,_,_,_,dA,(by decide),aQ,?_⟩
  by_cases he:e=0
  ·subst he
   repeat (first|refine ah ?_|refine ag ?_|refine aY ?_|refine cu ?_|refine au ?_|refine ak ?_|refine ae ?_|refine aC ?_|refine aB ?_)
   refine bH [0,10,12,13] (fun i:Nat=>i<=nd.length) (fun i=>⟨[(0,.sl nd.length (HL.ints w)),(10,.int .i64 v),(12,.int .i64 (jo w i)),(13,.int .i64 i)],[],0⟩) (fun i=>nd.length - i) 0 (by omega) rfl ?_
   rintro i hi
   have hp:=uO hw i
   by_cases hin:i < nd.length
   ·have hwi:=hw i
    obtain ⟨x,hx⟩:∃x,w.getD i 0=x:=⟨_,rfl⟩
    have hnx:jo w (i+1)=jo w i+max 0 x:=by rw [<- hx];rfl
    rw [hx] at hwi
    by_cases h0:0 < x
    ·have hnx2:jo w i+x=jo w (i+1):=by omega
     repeat (first|refine ah ?_|refine aN ?_|refine bK (by rfl) aV (by (try simp (disch:=omega) only [go_sem,hx,hnx2]);try rfl) ?_|refine ag ?_|refine az ?_|refine dn (by rfl) (by rfl) (by (try simp (disch:=omega) only [go_sem,Int.reduceAdd,Int.reduceSub,Int.reduceMul,hx,hnx2]);try rfl) ?_|refine aG ?_|refine ax ?_|refine ak ?_|refine ae ?_|refine aC ?_|refine dm ?_|refine aB ?_|refine FV (by rfl) (by rfl) (by (try simp only [go_sem,reduceIte,hx,hnx2]);try rfl) ?_)
     exact bQ [0,10,12,13] (i+1) hin (by omega) (by rw [if_pos h0,hnx2];rfl)
    ·have hnx2:jo w i=jo w (i+1):=by omega
     repeat (first|refine ah ?_|refine aN ?_|refine bK (by rfl) aV (by (try simp (disch:=omega) only [go_sem,hx]);try rfl) ?_|refine ag ?_|refine az ?_|refine dn (by rfl) (by rfl) (by (try simp (disch:=omega) only [go_sem,Int.reduceAdd,Int.reduceSub,Int.reduceMul,hx]);try rfl) ?_|refine aG ?_|refine ax ?_|refine ak ?_|refine ae ?_|refine aC ?_|refine dm ?_|refine aB ?_|refine FV (by rfl) (by rfl) (by (try simp only [go_sem,reduceIte,hx]);try rfl) ?_)
     exact bQ [0,10,12,13] (i+1) hin (by omega) (by rw [if_neg h0,Int.add_zero,hnx2];rfl)
   ·obtain rfl:i=nd.length:=by omega
    repeat (first|refine ah ?_|refine ag ?_|refine az ?_|refine aG ?_|refine bz (by rfl) ?_|refine au ?_|refine ak ?_|refine ae ?_|refine ig (by rfl) (by rfl) qh ?_)
    refine ay ?_
    exact ⟨_,_,rfl,.inr ⟨hfl,v,0,hR,.inr ⟨rfl,rfl,rfl⟩⟩⟩
  ·repeat (first|refine ah ?_|refine ag ?_|refine aY ?_|refine cu ?_|refine ax ?_|refine ak ?_|refine ae ?_)
   refine ay ?_
   exact ⟨_,_,rfl,.inr ⟨hfl,v,e,hR,.inl ⟨he,rfl,rfl⟩⟩⟩
 ·have hck:=yR ((nd.length:Int)+2) nd.length ((nd.length:Int)+1) (iQ w nd) fl (by omega) (.inr hfl)
  simp only [Es,I] at hck
  refine bg aK dO (hck) ?_
  rintro _ rfl
  refine ⟨dF,_,_,_,_,_,dA,(by decide),aQ,?_⟩
  repeat (first|refine ah ?_|refine ag ?_|refine aY ?_|refine cu ?_|refine ax ?_|refine ak ?_|refine ae ?_)
  refine ay ?_
  exact ⟨_,_,rfl,.inl ⟨hfl,rfl,rfl⟩⟩
end Go.Proofs.Yteamkjblpglliaa
end
