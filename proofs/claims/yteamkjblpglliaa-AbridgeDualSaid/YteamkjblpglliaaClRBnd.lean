import Derived.Test.YteamkjblpglliaaClNet
import Derived.Test.YteamkjblpglliaaClClsd
section
set_option linter.unusedSimpArgs false
set_option linter.unusedVariables false
namespace Go.Proofs.Yteamkjblpglliaa
open Go.RowKit Go.SL Go.HL
set_option maxHeartbeats 8000000 in
theorem NL (w:List Int) (nd:List (List Nat)) (bad:List Bool) (g:Gr nd bad) (hw:WOK w) (hl:w.length=nd.length):HT Try.prog 65 [I w,Gs (nd.map nl)] (fun r=>r=.tup [.int .i64 ((nd.length:Int)+2),.osl 3 (iM w nd).length (edges (iM w nd))]):=by
 have hsz:=g.size
 have hnl:(nd.map nl).length=nd.length:=by simp
 have hNl:=jX g w
 have hN2:nd.length*nd.length<=256*256:=Nat.mul_le_mul hsz hsz
 have hvw:=VW.of g hw hl
 have hcv:=qH w (nd.map nl) (by omega) (by omega) (fun i=>by rw [dM,fH];have:=g.len i;omega)
 simp only [Gs,I] at hcv
 rw [hnl,hl] at hcv
 refine HT.of rfl afj (Nat.le_of_ble_eq_true rfl) ?_
 unfold c65
 simp only [Gs,I,aP,Nat.reduceAdd]
 rw [hnl,hl]
 repeat (first|refine ah ?_|refine ag ?_|refine ak ?_|refine ae ?_|refine eU rfl (by rfl) gU ?_)
 refine bf aJ dI (hcv) ?_
 rintro _ ⟨b,rfl,hb⟩
 obtain rfl:b=true:=hb.2 hvw
 refine ⟨dE,_,_,_,_,_,dw,(by decide),aQ,?_⟩
 repeat (first|refine ah ?_|refine ag ?_|refine aF ?_|refine au ?_|refine ak ?_|refine ae ?_|refine aB ?_|refine aA ?_|refine eU rfl (by rfl) gU ?_|refine dR (by rfl) ?_)
 refine bD [0,1,6,7,8] (fun s:Nat×List Edge=>s.1<=nd.length/\s.2=iF nd.length w s.1)
  (fun s=>⟨[(0,.sl nd.length (HL.ints w)),(1,.sl nd.length (aZ (nd.map nl))),(6,.int .i64 nd.length),(7,.ref 0 [] 3 0 s.2.length),(8,.int .i64 s.1)],[(0,.osl 3 s.2.length (edges s.2))],1⟩)
  (fun s=>nd.length - s.1) (0,[]) ⟨by simp,rfl⟩ rfl ?_
 rintro ⟨i,es⟩ ⟨hi,hes⟩
 simp only at hi hes ⊢
 have hel:es.length<=i:=by rw [hes];exact kH _ _ _
 by_cases hin:i<nd.length
 ·obtain ⟨x,hx⟩:∃x,w.getD i 0=x:=⟨_,rfl⟩
  have hxr:=hw i
  rw [hx] at hxr
  have hnx:es++qj nd.length i x=iF nd.length w (i+1):=by rw [hes,<- hx];rfl
  by_cases hp:0<x
  ·have hsn:es++[⟨nd.length,i,x⟩]=iF nd.length w (i+1):=by rw [<- hnx];unfold qj;rw [if_pos hp]
   repeat (first|refine ah ?_|refine aN ?_|refine bK (by rfl) aT (by (try simp (disch:=omega) only [go_sem,hx]);try rfl) ?_|refine ag ?_|refine az ?_|refine di (by rfl) (by rfl) (by (try simp (disch:=omega) only [go_sem,Int.reduceAdd,Int.reduceSub,Int.reduceMul,hx]);try rfl) ?_|refine ax ?_|refine au ?_|refine ak ?_|refine ae ?_|refine aB ?_|refine dh ?_|refine aA ?_|refine bn ?_|refine dF ?_|refine jq gU (by rfl) fP AY (by (try simp (disch:=omega) only [go_sem,reduceIte,Nat.reduceEqDiff,Nat.reduceAdd,Nat.reduceMul,hx]);try omega) dm (by (try simp (disch:=omega) only [go_sem,reduceIte,Nat.reduceEqDiff,Nat.reduceAdd,Nat.reduceMul,hx]);try rfl) gU (by omega) jT aT (by (try simp (disch:=omega) only [go_sem,reduceIte,Nat.reduceEqDiff,Nat.reduceAdd,Nat.reduceMul,hx]);try rfl) bW ?_|refine nC ng nD (by simp [iU]) ?_)
   exact bJ [0,1,6,7,8] (i+1,es++[⟨nd.length,i,x⟩]) ⟨hin,hsn⟩ dV (by simp only [List.length_append,List.length_cons,List.length_nil,Nat.zero_add];rfl)
  ·by_cases hm:x<0
   ·have hsn:es++[⟨i,(nd.length:Int)+1,0 - x⟩]=iF nd.length w (i+1):=by rw [<- hnx];unfold qj;rw [if_neg hp,if_pos hm,Int.zero_sub]
    repeat (first|refine ah ?_|refine aN ?_|refine bK (by rfl) aT (by (try simp (disch:=omega) only [go_sem,hx]);try rfl) ?_|refine ag ?_|refine az ?_|refine di (by rfl) (by rfl) (by (try simp (disch:=omega) only [go_sem,Int.reduceAdd,Int.reduceSub,Int.reduceMul,hx]);try rfl) ?_|refine ax ?_|refine au ?_|refine ak ?_|refine ae ?_|refine aB ?_|refine dh ?_|refine aA ?_|refine bn ?_|refine Df (by rfl) (by (try simp (disch:=omega) only [go_sem,Int.reduceAdd,Int.reduceSub,Int.reduceMul,hx]);try rfl) ?_|refine dF ?_|refine jq gU (by rfl) fP AY (by (try simp (disch:=omega) only [go_sem,reduceIte,Nat.reduceEqDiff,Nat.reduceAdd,Nat.reduceMul,hx]);try omega) dm (by (try simp (disch:=omega) only [go_sem,reduceIte,Nat.reduceEqDiff,Nat.reduceAdd,Nat.reduceMul,hx]);try rfl) gU (by omega) jT aT (by (try simp (disch:=omega) only [go_sem,reduceIte,Nat.reduceEqDiff,Nat.reduceAdd,Nat.reduceMul,hx]);try rfl) bW ?_|refine nC ng nD (by simp [iU]) ?_)
    exact bJ [0,1,6,7,8] (i+1,es++[⟨i,(nd.length:Int)+1,0 - x⟩]) ⟨hin,hsn⟩ dV (by simp only [List.length_append,List.length_cons,List.length_nil,Nat.zero_add];rfl)
   ·have hsn:es=iF nd.length w (i+1):=by rw [<- hnx];unfold qj;rw [if_neg hp,if_neg hm,List.append_nil]
    repeat (first|refine ah ?_|refine aN ?_|refine bK (by rfl) aT (by (try simp (disch:=omega) only [go_sem,hx]);try rfl) ?_|refine ag ?_|refine az ?_|refine di (by rfl) (by rfl) (by (try simp (disch:=omega) only [go_sem,Int.reduceAdd,Int.reduceSub,Int.reduceMul,hx]);try rfl) ?_|refine ax ?_|refine au ?_|refine ak ?_|refine ae ?_|refine aB ?_|refine dh ?_|refine aA ?_|refine bn ?_)
    exact bJ [0,1,6,7,8] (i+1,es) ⟨hin,hsn⟩ dV rfl
 ·obtain rfl:i=nd.length:=by omega
  obtain ⟨W,hW⟩:∃W,iF nd.length w nd.length=W:=⟨_,rfl⟩
  have hWl:W.length<=nd.length:=by rw [<- hW];exact kH _ _ _
  have hnet:iM w nd=W++iP nd nd.length:=by unfold iM;rw [hW]
  rw [hW] at hes
  subst hes
  repeat (first|refine ah ?_|refine ag ?_|refine az ?_|refine aO ?_|refine au ?_|refine ak ?_|refine ae ?_|refine aB ?_)
  refine bD [1,6,7,9] (fun s:Nat×List Edge=>s.1<=nd.length/\s.2=es++iP nd s.1)
   (fun s=>⟨[(1,.sl nd.length (aZ (nd.map nl))),(6,.int .i64 nd.length),(7,.ref 0 [] 3 0 s.2.length),(9,.int .i64 s.1)],[(0,.osl 3 s.2.length (edges s.2))],1⟩)
   (fun s=>nd.length - s.1) (0,es) ⟨by simp,by simp [iP]⟩ rfl ?_
  rintro ⟨i,fs⟩ ⟨hi,hfs⟩
  simp only at hi hfs ⊢
  have hNi:=o9 g i hi
  have hfl:fs.length<=70000:=by
   rw [hfs,List.length_append]
   have:i*nd.length<=256*256:=Nat.mul_le_mul (by omega) hsz
   omega
  by_cases hin:i<nd.length
  ·obtain ⟨row,hrow⟩:∃row,nd.getD i []=row:=⟨_,rfl⟩
   have hrl:row.length<=nd.length:=by rw [<- hrow];exact g.len i
   have hrlt:∀x∈row,x<nd.length:=by rw [<- hrow];exact g.lt i
   have hnr:=fH row
   repeat (first|refine ah ?_|refine ag ?_|refine az ?_|refine ax ?_|refine ak ?_|refine ae ?_|refine aB ?_|refine aA ?_)
   refine bD [1,6,7,9,10] (fun s:Nat×List Edge=>s.1<=row.length/\s.2=fs++iL i row s.1)
    (fun s=>⟨[(1,.sl nd.length (aZ (nd.map nl))),(6,.int .i64 nd.length),(7,.ref 0 [] 3 0 s.2.length),(9,.int .i64 i),(10,.int .i64 s.1)],[(0,.osl 3 s.2.length (edges s.2))],1⟩)
    (fun s=>row.length - s.1) (0,fs) ⟨by simp,by simp [iL]⟩ rfl ?_
   rintro ⟨k,hs⟩ ⟨hk,hhs⟩
   simp only at hk hhs ⊢
   have hkl0:=qx i row k
   have hsl:hs.length<=71000:=by rw [hhs,List.length_append];omega
   by_cases hkl:k<row.length
   ·obtain ⟨v,hv⟩:∃v,row.getD k 0=v:=⟨_,rfl⟩
    have hvn:v<nd.length:=by rw [<- hv];exact hrlt _ (getD_mem row _ 0 hkl)
    have hnx:hs++tC i v=fs++iL i row (k+1):=by rw [hhs,<- hv,List.append_assoc];rfl
    by_cases hvi:v=i
    ·subst hvi
     have hsn:hs=fs++iL v row (k+1):=by rw [<- hnx];unfold tC;rw [if_pos rfl,List.append_nil]
     repeat (first|refine ah ?_|refine aN ?_|refine bK (by rfl) aT (by (try simp (disch:=omega) only [go_sem,dM,hrow,hv]);try rfl) ?_|refine ag ?_|refine az ?_|refine aW ?_|refine di (by rfl) (by rfl) (by (try simp (disch:=omega) only [go_sem,Int.reduceAdd,Int.reduceSub,Int.reduceMul,dM,hrow,hv]);try rfl) ?_|refine aF ?_|refine ax ?_|refine au ?_|refine ak ?_|refine ae ?_|refine aB ?_|refine dh ?_|refine aA ?_)
     exact bJ [1,6,7,9,10] (k+1,hs) ⟨hkl,hsn⟩ dV rfl
    ·have hsn:hs++[⟨i,v,1099511627776⟩]=fs++iL i row (k+1):=by rw [<- hnx];unfold tC;rw [if_neg hvi]
     repeat (first|refine ah ?_|refine aN ?_|refine bK (by rfl) aT (by (try simp (disch:=omega) only [go_sem,dM,hrow,hv]);try rfl) ?_|refine ag ?_|refine az ?_|refine aW ?_|refine di (by rfl) (by rfl) (by (try simp (disch:=omega) only [go_sem,Int.reduceAdd,Int.reduceSub,Int.reduceMul,dM,hrow,hv]);try rfl) ?_|refine aF ?_|refine ax ?_|refine ak ?_|refine ae ?_|refine aB ?_|refine dh ?_|refine aA ?_|refine dF ?_|refine jq gU (by rfl) fP AY (by (try simp (disch:=omega) only [go_sem,reduceIte,Nat.reduceEqDiff,Nat.reduceAdd,Nat.reduceMul,dM,hrow,hv]);try omega) dm (by (try simp (disch:=omega) only [go_sem,reduceIte,Nat.reduceEqDiff,Nat.reduceAdd,Nat.reduceMul,dM,hrow,hv]);try rfl) gU (by omega) jT aT (by (try simp (disch:=omega) only [go_sem,reduceIte,Nat.reduceEqDiff,Nat.reduceAdd,Nat.reduceMul,dM,hrow,hv]);try rfl) bW ?_|refine nC ng nD (by simp [iU]) ?_)
     exact bJ [1,6,7,9,10] (k+1,hs++[⟨i,v,1099511627776⟩]) ⟨hkl,hsn⟩ dV (by simp only [List.length_append,List.length_cons,List.length_nil,Nat.zero_add];rfl)
   ·obtain rfl:k=row.length:=by omega
    have hsn:hs=es++iP nd (i+1):=by rw [hhs,hfs,List.append_assoc,<- hrow];rfl
    repeat (first|refine ah ?_|refine aN ?_|refine bK (by rfl) aT (by (try simp (disch:=omega) only [go_sem,dM,hrow]);try rfl) ?_|refine ag ?_|refine az ?_|refine di (by rfl) (by rfl) (by (try simp (disch:=omega) only [go_sem,Int.reduceAdd,Int.reduceSub,Int.reduceMul,dM,hrow]);try rfl) ?_|refine aF ?_|refine aO ?_|refine au ?_|refine ak ?_|refine ae ?_|refine dh ?_)
    exact bJ [1,6,7,9] (i+1,hs) ⟨hin,hsn⟩ dV rfl
  ·obtain rfl:i=nd.length:=by omega
   repeat (first|refine ah ?_|refine ag ?_|refine az ?_|refine bz ?_|refine aO ?_|refine au ?_|refine ak ?_|refine ae ?_)
   refine ay ?_
   rw [hnet,<- hfs]
   rfl
end Go.Proofs.Yteamkjblpglliaa
end
section
set_option linter.unusedSimpArgs false
set_option linter.unusedVariables false
namespace Go.Proofs.Yteamkjblpglliaa
open Go.RowKit Go.SL Go.HL
set_option maxHeartbeats 8000000 in
theorem Jr (w:List Int) (nd:List (List Nat)) (bad:List Bool) (fl:List Int) (g:Gr nd bad) (hw:WOK w) (hl:w.length=nd.length):HT Try.prog 45 [I w,Gs (nd.map nl),I fl] (fun r=>∃x y,r=.tup [.int .i64 x,.int .i64 y]/\BoundR w nd fl x y):=by
 have hsz:=g.size
 have hnl:(nd.map nl).length=nd.length:=by simp
 have hNl:=jX g w
 have hN2:nd.length*nd.length<=256*256:=Nat.mul_le_mul hsz hsz
 have hv:=nU g hw
 have hnet:=NL w nd bad g hw hl
 have hcv:=qH w (nd.map nl) (by omega) (by omega) (fun i=>by rw [dM,fH];have:=g.len i;omega)
 simp only [Gs,I] at hnet hcv
 rw [hnl,hl] at hnet hcv
 have h21:(nd.length:Int)+2 - 2=nd.length:=by omega
 have h22:(nd.length:Int)+2 - 1=nd.length+1:=by omega
 refine HT.of rfl aer (Nat.le_of_ble_eq_true rfl) ?_
 unfold c45
 simp only [Gs,I,aP,Nat.reduceAdd]
 rw [hnl,hl]
 repeat (first|refine ah ?_|refine ag ?_|refine ak ?_|refine ae ?_)
 refine bf aJ dI (hcv) ?_
 rintro _ ⟨b,rfl,hb⟩
 obtain rfl:b=true:=hb.2 (VW.of g hw hl)
 refine ⟨dE,_,_,_,_,_,dw,(by decide),aQ,?_⟩
 repeat (first|refine ah ?_|refine ag ?_|refine au ?_|refine ak ?_|refine ae ?_|refine aA ?_|refine dR (by rfl) ?_)
 refine bf aJ dI (hnet) ?_
 rintro _ rfl
 refine ⟨dE,_,_,_,_,_,dw,(by decide),aQ,?_⟩
 repeat (first|refine ah ?_|refine ag ?_|refine bU ?_|refine ak ?_|refine ae ?_|refine ik (by rfl) (by rfl) (by (try simp (disch:=omega) only [go_sem,Int.reduceAdd,Int.reduceSub,Int.reduceMul,h21,h22]);try rfl) ?_)
 by_cases hfl:fl.length=(iM w nd).length
 ·have hck:=JO (nd.length+2) nd.length (nd.length+1) (iM w nd) fl hv hfl
  simp only [Es,I,Int.natCast_add,Int.cast_ofNat_Int] at hck
  refine bf aJ dI (hck) ?_
  rintro _ ⟨v,e,rfl,hR⟩
  have hbd:=hR.bd (fun e he=>(hv.all e he).2.2.2.2.2.2) (by omega)
  have hE:e=0\/e=5\/e=24:=by
   rcases hR with ⟨_,_,h⟩|⟨_,_,_,h⟩|⟨_,_,_,h⟩<;>omega
  refine ⟨dE,_,_,_,_,_,dw,(by decide),aQ,?_⟩
  by_cases he:e=0
  ·subst he
   repeat (first|refine ah ?_|refine ag ?_|refine aW ?_|refine bU ?_|refine au ?_|refine ak ?_|refine ae ?_|refine aB ?_|refine aA ?_)
   refine bD [0,10,12,13] (fun i:Nat=>i<=nd.length) (fun i=>⟨[(0,.sl nd.length (HL.ints w)),(10,.int .i64 v),(12,.int .i64 (jr w i)),(13,.int .i64 i)],[],0⟩) (fun i=>nd.length - i) 0 (by omega) rfl ?_
   rintro i hi
   have hp:=uG hw i
   by_cases hin:i<nd.length
   ·have hwi:=hw i
    obtain ⟨x,hx⟩:∃x,w.getD i 0=x:=⟨_,rfl⟩
    have hnx:jr w (i+1)=jr w i+max 0 x:=by rw [<- hx];rfl
    rw [hx] at hwi
    by_cases h0:0<x
    ·have hnx2:jr w i+x=jr w (i+1):=by omega
     repeat (first|refine ah ?_|refine aN ?_|refine bK (by rfl) aT (by (try simp (disch:=omega) only [go_sem,hx,hnx2]);try rfl) ?_|refine ag ?_|refine az ?_|refine di (by rfl) (by rfl) (by (try simp (disch:=omega) only [go_sem,Int.reduceAdd,Int.reduceSub,Int.reduceMul,hx,hnx2]);try rfl) ?_|refine aF ?_|refine ax ?_|refine ak ?_|refine ae ?_|refine aB ?_|refine dh ?_|refine aA ?_|refine FC (by rfl) (by rfl) (by (try simp only [go_sem,reduceIte,hx,hnx2]);try rfl) ?_)
     exact bJ [0,10,12,13] (i+1) hin (by omega) (by rw [if_pos h0,hnx2];rfl)
    ·have hnx2:jr w i=jr w (i+1):=by omega
     repeat (first|refine ah ?_|refine aN ?_|refine bK (by rfl) aT (by (try simp (disch:=omega) only [go_sem,hx]);try rfl) ?_|refine ag ?_|refine az ?_|refine di (by rfl) (by rfl) (by (try simp (disch:=omega) only [go_sem,Int.reduceAdd,Int.reduceSub,Int.reduceMul,hx]);try rfl) ?_|refine aF ?_|refine ax ?_|refine ak ?_|refine ae ?_|refine aB ?_|refine dh ?_|refine aA ?_|refine FC (by rfl) (by rfl) (by (try simp only [go_sem,reduceIte,hx]);try rfl) ?_)
     exact bJ [0,10,12,13] (i+1) hin (by omega) (by rw [if_neg h0,Int.add_zero,hnx2];rfl)
   ·obtain rfl:i=nd.length:=by omega
    repeat (first|refine ah ?_|refine ag ?_|refine az ?_|refine aF ?_|refine aO ?_|refine au ?_|refine ak ?_|refine ae ?_|refine ik (by rfl) (by rfl) nV ?_)
    refine ay ?_
    exact ⟨_,_,rfl,.inr ⟨hfl,v,0,hR,.inr ⟨rfl,rfl,rfl⟩⟩⟩
  ·repeat (first|refine ah ?_|refine ag ?_|refine aW ?_|refine bU ?_|refine ax ?_|refine ak ?_|refine ae ?_)
   refine ay ?_
   exact ⟨_,_,rfl,.inr ⟨hfl,v,e,hR,.inl ⟨he,rfl,rfl⟩⟩⟩
 ·have hck:=yZ ((nd.length:Int)+2) nd.length ((nd.length:Int)+1) (iM w nd) fl (by omega) (.inr hfl)
  simp only [Es,I] at hck
  refine bf aJ dI (hck) ?_
  rintro _ rfl
  refine ⟨dE,_,_,_,_,_,dw,(by decide),aQ,?_⟩
  repeat (first|refine ah ?_|refine ag ?_|refine aW ?_|refine bU ?_|refine ax ?_|refine ak ?_|refine ae ?_)
  refine ay ?_
  exact ⟨_,_,rfl,.inl ⟨hfl,rfl,rfl⟩⟩
end Go.Proofs.Yteamkjblpglliaa
end
