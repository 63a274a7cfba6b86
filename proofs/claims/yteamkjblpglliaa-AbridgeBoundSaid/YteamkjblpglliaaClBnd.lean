import Derived.Test.YteamkjblpglliaaFlBad
import Derived.Test.YteamkjblpglliaaAbA
section
set_option linter.unusedSimpArgs false
set_option linter.unusedVariables false
namespace Go.Proofs.Yteamkjblpglliaa
open Go.RowKit Go.SL Go.HL
theorem AB (n s t:Int) (es:List Edge) (fl:List Int) (hl:es.length<=9223372036854775807) (hbad:¬ VNet n s t es\/fl.length≠es.length):HT Try.prog 16 [.int .i64 n,Es es,.int .i64 s,.int .i64 t,I fl] (fun r=>r=.tup [.int .i64 0,.int .i64 1]):=by
 refine HT.of rfl Vp (Nat.le_of_ble_eq_true rfl) ?_
 unfold c16
 simp only [Es,I,aO,Nat.reduceAdd]
 repeat (first|refine ah ?_|refine ag ?_|refine ak ?_|refine ae ?_)
 refine bg aK dO (Ku n s t es hl) ?_
 rintro _ ⟨b,rfl,hb⟩
 cases b with
 | false =>
  refine ⟨dF,_,_,_,_,_,dA,(by decide),aQ,?_⟩
  repeat (first|refine ah ?_|refine bT ?_|refine ag ?_|refine aJ ?_|refine ax ?_|refine ak ?_|refine ae ?_|refine iL (by rfl) ?_)
  refine ay ?_
  rfl
 | true =>
  have hv:=hb.1 rfl
  have hne:¬ fl.length=es.length:=by rcases hbad with h|h;exact absurd hv h;exact h
  refine ⟨dF,_,_,_,_,_,dA,(by decide),aQ,?_⟩
  repeat (first|refine ah ?_|refine aH ?_|refine ag ?_|refine aY ?_|refine aI ?_|refine aG ?_|refine ax ?_|refine ak ?_|refine ae ?_|refine fD (by rfl) ?_)
  refine ay ?_
  rfl
theorem yR (n s t:Int) (es:List Edge) (fl:List Int) (hl:es.length<=9223372036854775807) (hbad:¬ VNet n s t es\/fl.length≠es.length):HT Try.prog 66 [.int .i64 n,Es es,.int .i64 s,.int .i64 t,I fl] (fun r=>r=.tup [.int .i64 0,.int .i64 1]):=by
 refine HT.of rfl Z7 (Nat.le_of_ble_eq_true rfl) ?_
 unfold c66
 simp only [Es,I,aO,Nat.reduceAdd]
 repeat (first|refine ah ?_|refine ag ?_|refine ak ?_|refine ae ?_)
 refine bg aK dO (zI n s t es hl) ?_
 rintro _ ⟨b,rfl,hb⟩
 cases b with
 | false =>
  refine ⟨dF,_,_,_,_,_,dA,(by decide),aQ,?_⟩
  repeat (first|refine ah ?_|refine bT ?_|refine ag ?_|refine aJ ?_|refine ax ?_|refine ak ?_|refine ae ?_|refine iL (by rfl) ?_)
  refine ay ?_
  rfl
 | true =>
  have hv:=hb.1 rfl
  have hne:¬ fl.length=es.length:=by rcases hbad with h|h;exact absurd hv h;exact h
  refine ⟨dF,_,_,_,_,_,dA,(by decide),aQ,?_⟩
  repeat (first|refine ah ?_|refine aH ?_|refine ag ?_|refine aY ?_|refine aI ?_|refine aG ?_|refine ax ?_|refine ak ?_|refine ae ?_|refine fD (by rfl) ?_)
  refine ay ?_
  rfl
set_option maxHeartbeats 4000000 in
theorem IV (n s t:Nat) (es:List Edge) (fl:List Int) (hv:VNet n s t es) (hl:fl.length=es.length):HT Try.prog 66 [.int .i64 n,Es es,.int .i64 s,.int .i64 t,I fl] (fun r=>∃x y,r=.tup [.int .i64 x,.int .i64 y]/\CheckR n s t es fl x y):=by
 refine HT.of rfl Z7 (Nat.le_of_ble_eq_true rfl) ?_
 unfold c66
 simp only [Es,I,aO,Nat.reduceAdd,hl]
 have hle:=hv.len
 have hn258:=hv.n258
 repeat (first|refine ah ?_|refine ag ?_|refine ak ?_|refine ae ?_)
 refine bg aK dO (zI n s t es (by omega)) ?_
 rintro _ ⟨b,rfl,hb⟩
 obtain rfl:b=true:=hb.2 hv
 refine ⟨dF,_,_,_,_,_,dA,(by decide),aQ,?_⟩
 repeat (first|refine ah ?_|refine aH ?_|refine ag ?_|refine aY ?_|refine aI ?_|refine aG ?_|refine au ?_|refine ak ?_|refine ae ?_|refine aC ?_|refine aB ?_|refine fD (by rfl) ?_|refine kZ gY (by rfl) (by omega) di di ?_)
 refine bH [0,1,2,3,4,12,13] (fun k:Nat=>k<=es.length/\sK es fl k) (fun k=>⟨[(0,.int .i64 n),(1,.sl es.length (edges es)),(2,.int .i64 s),(3,.int .i64 t),(4,.sl es.length (HL.ints fl)),(12,.ref 0 [] 1 0 n),(13,.int .i64 k)],[(0,.osl 1 n (HL.ints (ja n es fl k)))],1⟩) (fun k=>es.length - k) 0 ⟨by omega,fun j hj=>by omega⟩ rfl ?_
 rintro k ⟨hk,hok⟩
 have hnl:=uS n es fl k
 by_cases hkl:k < es.length
 ·have hg:es.getD k default=es[k]:=by simp [hkl]
  obtain ⟨v1,v2,v3,v4,v5,v6,v7⟩:=hv.all _ (List.getElem_mem hkl)
  rw [<- hg] at v1 v2 v3 v4 v5 v6 v7
  by_cases h0:fl.getD k 0 < 0
  ·have hno:¬ sK es fl es.length:=fun h=>by have:=h k hkl;omega
   repeat (first|refine ah ?_|refine ag ?_|refine az ?_|refine aG ?_|refine ax ?_|refine ak ?_|refine ae ?_|refine aC ?_|refine aB ?_)
   refine bU aU aU (fun _ _ _=>False) ?_
   repeat (first|refine ah ?_|refine bT ?_|refine aN ?_|refine bK (by rfl) aV mJ ?_|refine ag ?_|refine az ?_|refine aJ ?_|refine ax ?_|refine ak ?_|refine ae ?_)
   refine ay ?_
   exact ⟨0,5,rfl,.inl ⟨hno,rfl,rfl⟩⟩
  ·by_cases h1:(es.getD k default).c < fl.getD k 0
   ·have hno:¬ sK es fl es.length:=fun h=>by have:=h k hkl;omega
    repeat (first|refine ah ?_|refine ag ?_|refine az ?_|refine aG ?_|refine ax ?_|refine ak ?_|refine ae ?_|refine aC ?_|refine aB ?_)
    refine bU aU aU (fun _ _ _=>False) ?_
    repeat (first|refine ah ?_|refine aH ?_|refine aN ?_|refine bK (by rfl) aV mJ ?_|refine ag ?_|refine az ?_|refine aI ?_|refine ax ?_|refine ak ?_|refine ae ?_|refine bu ?_|refine mY (by rfl) (by rfl) ?_)
    refine ay ?_
    exact ⟨0,5,rfl,.inl ⟨hno,rfl,rfl⟩⟩
   ·have hok2:sK es fl (k+1):=fun j hj=>by
     rcases Nat.lt_or_ge j k with h2|h2
     ·exact hok j h2
     ·obtain rfl:j=k:=by omega
      omega
    have hbd:∀i:Nat,i < n -> -72057594037927936<=(ja n es fl k).getD i 0/\(ja n es fl k).getD i 0<=72057594037927936:=fun i hi=>by
     have:=Aw n es fl k (fun e he=>(hv.all e he).2.2.2.2.2.2) hk hok ((ja n es fl k).getD i 0) (by
      rw [List.getD_eq_getElem?_getD,List.getElem?_eq_getElem (by omega)];exact List.getElem_mem _)
     omega
    have hbf:=hbd (es.getD k default).f.toNat (by omega)
    have hbt:=hbd (es.getD k default).t.toNat (by omega)
    have hset:((ja n es fl k).set (es.getD k default).f.toNat ((ja n es fl k).getD (es.getD k default).f.toNat 0+fl.getD k 0)).getD (es.getD k default).t.toNat 0=(ja n es fl k).getD (es.getD k default).t.toNat 0:=by
     rw [sG _ _ _ _ (by omega),if_neg (by omega)]
    rw [<- hset] at hbt
    have hl2:((ja n es fl k).set (es.getD k default).f.toNat ((ja n es fl k).getD (es.getD k default).f.toNat 0+fl.getD k 0)).length=n:=by rw [List.length_set];exact hnl
    repeat (first|refine ah ?_|refine ag ?_|refine az ?_|refine aG ?_|refine ax ?_|refine ak ?_|refine ae ?_|refine aC ?_|refine aB ?_)
    refine bU aU aU (fun _ _ _=>False) ?_
    repeat (first|refine ah ?_|refine aH ?_|refine aN ?_|refine bK (by rfl) aV mJ ?_|refine ag ?_|refine az ?_|refine aI ?_|refine au ?_|refine ak ?_|refine aB ?_|refine bu ?_|refine mY (by rfl) (by rfl) ?_)
    refine bU aU aU (fun _ _ _=>False) ?_
    repeat (first|refine ah ?_|refine aN ?_|refine dH ?_|refine bK (by rfl) aV mJ ?_|refine aF ?_|refine ag ?_|refine bM ?_|refine mY (by rfl) (by rfl) ?_|refine iF ?_)
    refine bU aU aU (fun _ _ _=>False) ?_
    repeat (first|refine ah ?_|refine aN ?_|refine dH ?_|refine bK (by rfl) aV mJ ?_|refine aF ?_|refine ag ?_|refine bM ?_|refine ae ?_|refine dm ?_|refine ig (by rfl) (by rfl) qh ?_|refine mY (by rfl) (by rfl) ?_|refine iF ?_)
    exact bQ [0,1,2,3,4,12,13] (k+1) ⟨hkl,hok2⟩ (by omega) rfl
 ·obtain rfl:k=es.length:=by omega
  repeat (first|refine ah ?_|refine ag ?_|refine az ?_|refine aG ?_|refine bz (by rfl) ?_|refine au ?_|refine ak ?_|refine ae ?_|refine aC ?_)
  refine bH [0,2,3,12,14] (fun k:Nat=>k<=n/\¬ wJ s t (ja n es fl es.length) k) (fun k=>⟨[(0,.int .i64 n),(2,.int .i64 s),(3,.int .i64 t),(12,.ref 0 [] 1 0 n),(14,.int .i64 k)],[(0,.osl 1 n (HL.ints (ja n es fl es.length)))],1⟩) (fun k=>n - k) 0 ⟨by omega,fun ⟨v,h,_⟩=>by omega⟩ rfl ?_
  rintro k ⟨hk2,hodd⟩
  have hsn:=hv.sn
  by_cases hkn:k < n
  ·have up:((k:Int)=s\/(k:Int)=t\/(ja n es fl es.length).getD k 0=0)->¬ wJ s t (ja n es fl es.length) (k+1):=by
    rintro h ⟨v,h1,h2,h3,h4⟩
    rcases Nat.lt_or_ge v k with h5|h5
    ·exact hodd ⟨v,h5,h2,h3,h4⟩
    ·obtain rfl:v=k:=by omega
     rcases h with h|h|h
     ·exact h2 h
     ·exact h3 h
     ·exact h4 h
   by_cases e1:(k:Int)=s
   ·have hup:=up (.inl e1)
    repeat (first|refine ah ?_|refine bT ?_|refine ag ?_|refine az ?_|refine aY ?_|refine aI ?_|refine bM ?_|refine ax ?_|refine au ?_|refine ak ?_|refine ae ?_|refine aC ?_|refine dm ?_|refine aB ?_)
    exact bQ [0,2,3,12,14] (k+1) ⟨hkn,hup⟩ (by omega) rfl
   ·by_cases e2:(k:Int)=t
    ·have hup:=up (.inr (.inl e2))
     repeat (first|refine ah ?_|refine aH ?_|refine bT ?_|refine ag ?_|refine az ?_|refine aY ?_|refine aJ ?_|refine aI ?_|refine bM ?_|refine ax ?_|refine au ?_|refine ak ?_|refine ae ?_|refine aC ?_|refine dm ?_|refine aB ?_)
     exact bQ [0,2,3,12,14] (k+1) ⟨hkn,hup⟩ (by omega) rfl
    ·by_cases e3:(ja n es fl es.length).getD k 0=0
     ·have hup:=up (.inr (.inr e3))
      repeat (first|refine ah ?_|refine aH ?_|refine dH ?_|refine aF ?_|refine ag ?_|refine az ?_|refine aY ?_|refine aJ ?_|refine bM ?_|refine ax ?_|refine au ?_|refine ak ?_|refine ae ?_|refine aC ?_|refine dm ?_|refine aB ?_)
      exact bQ [0,2,3,12,14] (k+1) ⟨hkn,hup⟩ (by omega) rfl
     ·repeat (first|refine ah ?_|refine aH ?_|refine dH ?_|refine aF ?_|refine ag ?_|refine az ?_|refine aY ?_|refine aJ ?_|refine ax ?_|refine ak ?_|refine ae ?_|refine aC ?_|refine aB ?_)
      refine ay ?_
      exact ⟨0,24,rfl,.inr (.inl ⟨hok,⟨k,hkn,e1,e2,e3⟩,rfl,rfl⟩)⟩
  ·obtain rfl:n=k:=by omega
   repeat (first|refine ah ?_|refine dH ?_|refine aF ?_|refine ag ?_|refine az ?_|refine bz (by rfl) ?_|refine au ?_|refine ak ?_|refine ae ?_)
   refine ay ?_
   exact ⟨_,0,rfl,.inr (.inr ⟨hok,hodd,rfl,rfl⟩)⟩
end Go.Proofs.Yteamkjblpglliaa
end
section
set_option linter.unusedSimpArgs false
set_option linter.unusedVariables false
namespace Go.Proofs.Yteamkjblpglliaa
open Go.RowKit Go.SL Go.HL
def BoundR (w:List Int) (nd:List (List Nat)) (fl:List Int) (x y:Int):Prop :=
 (fl.length≠(iQ w nd).length/\x=0/\y=1)\/(fl.length=(iQ w nd).length/\∃v e,CheckR (nd.length+2) nd.length ((nd.length:Int)+1) (iQ w nd) fl v e/\(e≠0/\x=0/\y=e\/e=0/\x=jo w nd.length - v/\y=0))
theorem CheckR.bd {n:Nat} {s t:Int} {es:List Edge} {fl:List Int} {v e:Int} (h:CheckR n s t es fl v e) (hc:∀e∈es,e.c<=1099511627776) (hl:es.length<=65536) : -72057594037927936<=v/\v<=72057594037927936:=by
 rcases h with ⟨_,rfl,_⟩|⟨_,_,rfl,_⟩|⟨hok,_,rfl,_⟩
 ·omega
 ·omega
 ·have hb:=Aw n es fl es.length hc (Nat.le_refl _) hok
  by_cases hs:s.toNat < (ja n es fl es.length).length
  ·have:=hb ((ja n es fl es.length).getD s.toNat 0) (by rw [List.getD_eq_getElem?_getD,List.getElem?_eq_getElem hs,Option.getD_some];exact List.getElem_mem hs)
   omega
  ·rw [List.getD_eq_getElem?_getD,List.getElem?_eq_none (by omega)];simp
set_option maxHeartbeats 8000000 in
theorem Jf (w:List Int) (nd:List (List Nat)) (bad:List Bool) (fl:List Int) (g:Gr nd bad) (hw:WOK w) (hl:w.length=nd.length):HT Try.prog 14 [I w,Gs (nd.map nl),I fl] (fun r=>∃x y,r=.tup [.int .i64 x,.int .i64 y]/\BoundR w nd fl x y):=by
 have hsz:=g.size
 have hnl:(nd.map nl).length=nd.length:=by simp
 have hNl:=kU g w
 have hN2:nd.length * nd.length<=256 * 256:=Nat.mul_le_mul hsz hsz
 have hv:=mM g hw
 have hnet:=Ho w nd bad g hw hl
 simp only [Gs,I] at hnet
 rw [hnl,hl] at hnet
 refine HT.of rfl aeQ (Nat.le_of_ble_eq_true rfl) ?_
 unfold c14
 simp only [Gs,I,aO,Nat.reduceAdd]
 rw [hnl,hl]
 repeat (first|refine ah ?_|refine ag ?_|refine ak ?_|refine ae ?_)
 refine bg aK dO (hnet) ?_
 rintro _ rfl
 refine ⟨dF,_,_,_,_,_,dA,(by decide),aQ,?_⟩
 repeat (first|refine ah ?_|refine ag ?_|refine aX ?_|refine bM ?_|refine cu ?_|refine aG ?_|refine au ?_|refine ak ?_|refine ae ?_|refine aB ?_)
 by_cases hfl:fl.length=(iQ w nd).length
 ·have hck:=Lu (nd.length+2) (iQ w nd) nd.length (nd.length+1) fl hv hfl
  simp only [Es,I,Int.natCast_add,Int.cast_ofNat_Int] at hck
  refine bg aK dO (hck) ?_
  rintro _ ⟨v,e,rfl,hR⟩
  have hbd:=hR.bd (fun e he=>(hv.all e he).2.2.2.2.2.2) (by omega)
  have hE:e=0\/e=5\/e=24:=by
   rcases hR with ⟨_,_,h⟩|⟨_,_,_,h⟩|⟨_,_,_,h⟩ <;> omega
  refine ⟨dF,_,_,_,_,_,dA,(by decide),aQ,?_⟩
  by_cases he:e=0
  ·subst he
   repeat (first|refine ah ?_|refine ag ?_|refine aY ?_|refine cu ?_|refine aG ?_|refine au ?_|refine ak ?_|refine ae ?_|refine aC ?_|refine aB ?_|refine Ea (by rfl) qh ?_)
   refine bH [13,41,42,43] (fun i:Nat=>i<=nd.length) (fun i=>⟨[(13,.int .i64 (jo w i - v)),(41,.sl nd.length (HL.ints w)),(42,.int .i64 nd.length),(43,.int .i64 i)],[],0⟩) (fun i=>nd.length - i) 0 (by omega) (by simp only [jo];rfl) ?_
   rintro i hi
   have hp:=uO hw i
   by_cases hin:i < nd.length
   ·have hwi:=hw i
    obtain ⟨x,hx⟩:∃x,w.getD i 0=x:=⟨_,rfl⟩
    have hnx:jo w (i+1)=jo w i+max 0 x:=by rw [<- hx];rfl
    rw [hx] at hwi
    by_cases h0:0 < x
    ·have hnx2:jo w i - v+x=jo w (i+1) - v:=by omega
     repeat (first|refine ah ?_|refine aN ?_|refine bK (by rfl) aV (by (try simp (disch:=omega) only [go_sem,hx,hnx2]);try rfl) ?_|refine ag ?_|refine az ?_|refine dn (by rfl) (by rfl) (by (try simp (disch:=omega) only [go_sem,Int.reduceAdd,Int.reduceSub,Int.reduceMul,hx,hnx2]);try rfl) ?_|refine ax ?_|refine ak ?_|refine ae ?_|refine aC ?_|refine dm ?_|refine aB ?_|refine FV (by rfl) (by rfl) (by (try simp only [go_sem,reduceIte,hx,hnx2]);try rfl) ?_)
     exact bQ [13,41,42,43] (i+1) hin (by omega) (by rw [if_pos h0,hnx2];rfl)
    ·have hnx2:jo w i - v=jo w (i+1) - v:=by omega
     repeat (first|refine ah ?_|refine aN ?_|refine bK (by rfl) aV (by (try simp (disch:=omega) only [go_sem,hx]);try rfl) ?_|refine ag ?_|refine az ?_|refine dn (by rfl) (by rfl) (by (try simp (disch:=omega) only [go_sem,Int.reduceAdd,Int.reduceSub,Int.reduceMul,hx]);try rfl) ?_|refine ax ?_|refine ak ?_|refine ae ?_|refine aC ?_|refine dm ?_|refine aB ?_|refine FV (by rfl) (by rfl) (by (try simp only [go_sem,reduceIte,hx]);try rfl) ?_)
     exact bQ [13,41,42,43] (i+1) hin (by omega) (by rw [if_neg h0,Int.add_zero,hnx2];rfl)
   ·obtain rfl:i=nd.length:=by omega
    repeat (first|refine ah ?_|refine ag ?_|refine az ?_|refine bz (by rfl) ?_|refine au ?_|refine ak ?_|refine ae ?_)
    refine ay ?_
    exact ⟨_,_,rfl,.inr ⟨hfl,v,0,hR,.inr ⟨rfl,rfl,rfl⟩⟩⟩
  ·repeat (first|refine ah ?_|refine ag ?_|refine aY ?_|refine cu ?_|refine ax ?_|refine ak ?_|refine ae ?_)
   refine ay ?_
   exact ⟨_,_,rfl,.inr ⟨hfl,v,e,hR,.inl ⟨he,rfl,rfl⟩⟩⟩
 ·have hck:=AB ((nd.length:Int)+2) nd.length ((nd.length:Int)+1) (iQ w nd) fl (by omega) (.inr hfl)
  simp only [Es,I] at hck
  refine bg aK dO (hck) ?_
  rintro _ rfl
  refine ⟨dF,_,_,_,_,_,dA,(by decide),aQ,?_⟩
  repeat (first|refine ah ?_|refine ag ?_|refine aY ?_|refine cu ?_|refine ax ?_|refine ak ?_|refine ae ?_)
  refine ay ?_
  exact ⟨_,_,rfl,.inl ⟨hfl,rfl,rfl⟩⟩
theorem GV {w:List Int} {nd:List (List Nat)} {bad:List Bool} {fl:List Int} {x y:Int} (g:Gr nd bad) (hw:WOK w) (hf:uf ((nd.length:Int)+2) nd.length ((nd.length:Int)+1) (iQ w nd) fl) (h:BoundR w nd fl x y):y=0/\x=jo w nd.length - mP (iQ w nd) fl nd.length (iQ w nd).length:=by
 rcases h with ⟨h,_⟩|⟨_,v,e,hR,h⟩
 ·exact absurd hf.len h
 ·obtain ⟨h1,h2⟩:=ES (n:=nd.length+2) (s:=nd.length) (t:=nd.length+1) (mM g hw) hf hR
  rcases h with ⟨h,_⟩|⟨_,h3,h4⟩
  ·exact absurd h2 h
  ·exact ⟨h4,by rw [h3,h1]⟩
end Go.Proofs.Yteamkjblpglliaa
end
