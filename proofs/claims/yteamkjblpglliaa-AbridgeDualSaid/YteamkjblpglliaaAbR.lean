import Derived.Test.YteamkjblpglliaaAbT
set_option linter.unusedSimpArgs false
set_option linter.unusedVariables false
namespace Go.Proofs.Yteamkjblpglliaa
open Go.RowKit Go.SL Go.HL
def qw (fr:Nat->Bool) (n i:Nat):List Nat:=(List.range n).map fun j=>if decide (j<i)&&fr j then (gY fr j).length else 0
theorem yD (fr:Nat->Bool) (n i:Nat):(qw fr n i).length=n:=by simp [qw]
theorem Jo (fr:Nat->Bool) (n:Nat):HL.ints (List.replicate n 0)=HL.ints (nl (qw fr n 0)):=by
 congr 1
 apply List.ext_getElem
 ·simp [nl,qw]
 ·intro k h1 h2;simp [nl,qw]
theorem I5 {fr:Nat->Bool} {n i:Nat} (h:fr i=false):qw fr n (i+1)=qw fr n i:=by
 unfold qw
 apply List.map_congr_left
 intro j _
 by_cases e:j=i
 ·subst e;rw [h];simp
 ·have:decide (j<i+1)=decide (j<i):=by simp only [decide_eq_decide];omega
  rw [this]
theorem KH {fr:Nat->Bool} {n i:Nat} (h:fr i=true) (hi:i<n):(nl (qw fr n i)).set i ((gY fr i).length:Int)=nl (qw fr n (i+1)):=by
 apply List.ext_getElem
 ·simp [nl,qw]
 ·intro k h1 h2
  rw [List.getElem_set]
  simp only [nl,qw,List.getElem_map,List.getElem_range]
  by_cases e:i=k
  ·subst e;rw [if_pos rfl,h];simp
  ·rw [if_neg e]
   have:decide (k<i+1)=decide (k<i):=by simp only [decide_eq_decide];omega
   rw [this]
theorem J3 {fr:Nat->Bool} {n k:Nat} (hk:k<n) (h:fr k=true):(qw fr n n).getD k 0=(gY fr k).length:=by
 rw [gW (by rw [yD];exact hk)]
 simp [qw,hk,h]
def kZ (row:List Nat) (inn:List Bool) (fr:Nat->Bool) (k:Nat):List Nat:=((row.take k).filter fun x=>!inn.getD x false).map fun x=>(gY fr x).length
theorem Fv {row:List Nat} {inn:List Bool} {fr:Nat->Bool} {k:Nat} (hk:k<row.length) (h:inn.getD (row.getD k 0) false=true):kZ row inn fr (k+1)=kZ row inn fr k:=by
 unfold kZ
 rw [cO row k 0 hk,List.filter_append]
 simp only [List.filter_cons,h,Bool.not_true,Bool.false_eq_true,if_false,List.filter_nil,List.append_nil]
theorem IB {row:List Nat} {inn:List Bool} {fr:Nat->Bool} {k:Nat} (hk:k<row.length) (h:inn.getD (row.getD k 0) false=false):kZ row inn fr (k+1)=kZ row inn fr k++[(gY fr (row.getD k 0)).length]:=by
 unfold kZ
 rw [cO row k 0 hk,List.filter_append]
 simp only [List.filter_cons,h,Bool.not_false,if_true,List.filter_nil,List.map_append,List.map_cons,List.map_nil]
theorem Jh (row:List Nat) (inn:List Bool) (fr:Nat->Bool) (k:Nat):(kZ row inn fr k).length<=row.length:=by
 unfold kZ
 rw [List.length_map]
 refine Nat.le_trans (List.length_filter_le _ _) ?_
 simp;omega
def vH (inn out S:List Bool) (n j:Nat):List Bool:=(List.range n).map fun k=>if free inn out k&&decide ((gY (free inn out) k).length<j) then S.getD (gY (free inn out) k).length false else inn.getD k false
theorem ML (inn out S:List Bool) (n j:Nat):(vH inn out S n j).length=n:=by simp [vH]
theorem IU {inn:List Bool} (out S:List Bool) {n:Nat} (h:inn.length=n):vH inn out S n 0=inn:=by
 apply List.ext_getElem
 ·simp [vH,h]
 ·intro k h1 h2
  simp only [vH,List.getElem_map,List.getElem_range,Nat.not_lt_zero,decide_false,Bool.and_false,Bool.false_eq_true,if_false]
  exact gW h2
theorem LQ {inn out S:List Bool} {n j:Nat} (hj:j<(gY (free inn out) n).length):(vH inn out S n j).set ((gY (free inn out) n).getD j 0) (S.getD j false)=vH inn out S n (j+1):=by
 obtain ⟨h1,h2,h3⟩:=rH (free inn out) hj
 generalize (gY (free inn out) n).getD j 0=u at *
 apply List.ext_getElem
 ·simp [vH]
 ·intro k hk1 hk2
  have hkn:k<n:=by simpa [vH] using hk2
  rw [List.getElem_set]
  simp only [vH,List.getElem_map,List.getElem_range]
  by_cases e:u=k
  ·subst e;rw [if_pos rfl,h2,h3];simp
  ·rw [if_neg e]
   cases hf:free inn out k with
   | false=>rfl
   | true =>
    have hne:(gY (free inn out) k).length≠j:=fun he=>e (by
     rw [<- xH (free inn out) h1 h2,<- xH (free inn out) hkn hf,h3,he])
    have:decide ((gY (free inn out) k).length<j+1)=decide ((gY (free inn out) k).length<j):=by simp only [decide_eq_decide];omega
    rw [this]
theorem IM (inn out S:List Bool) (n:Nat):vH inn out S n (gY (free inn out) n).length=Eh inn out S n:=by
 unfold vH Eh
 apply List.map_congr_left
 intro k hk
 have hkn:k<n:=by simpa using hk
 cases hf:free inn out k with
 | false=>rfl
 | true=>simp [vO (free inn out) hkn hf]
set_option maxHeartbeats 16000000 in
theorem Nw {W C:List Int} {nd us:List (List Nat)} {B:Int} (h:Pb W C nd B) (s:Se) (hm:Mul s.num s.den) (hw:WOK (gB W C s.num s.den)) (inn out:List Bool) (hi:inn.length=nd.length) (ho:out.length=nd.length) (hn0:0<nd.length) (hc:dH nd inn) (hup:Oz nd out) :
  HT Try.prog 63 [.ptr (pW W C nd us B s) 0,Bl inn,Bl out] (fun r=>∃A v,r=.tup [.osl 1 nd.length (HL.bools A),.int .i64 v]/\L8 (gB W C s.num s.den) nd inn out A v):=by
 have hsz:=h.g.size
 have hlw:=h.lw
 have hlc:=h.lc
 obtain ⟨hnum,hden⟩:=hm
 have hnl:(nd.map nl).length=nd.length:=by simp
 have hcl:=nX inn (by omega) (by omega)
 simp only [Bl,hi] at hcl
 have hFn:(gY (free inn out) nd.length).length<=nd.length:=rZ _ _
 refine HT.of rfl afh (Nat.le_of_ble_eq_true rfl) ?_
 unfold c63
 simp only [pW,I,Bl,Gs,aP,Nat.reduceAdd,hi,ho,hlw,hlc,hnl]
 repeat (first|refine ah ?_|refine ag ?_|refine aF ?_|refine ak ?_|refine ae ?_|refine aB ?_|refine eU rfl (by rfl) gU ?_|refine ku gU (by rfl) (by omega) bW bW ?_)
 refine bD [0,1,2,8,9,29,30] (fun i:Nat=>i<=nd.length)
  (fun i=>⟨[(0,.ptr [.sl nd.length (HL.ints W),.sl nd.length (HL.ints C),.sl nd.length (aZ (nd.map nl)),.int .i64 B,.int .i64 s.steps,.sl s.best.length (HL.bools s.best),.int .i64 s.num,.int .i64 s.den,.int .i64 s.value,.sl s.set.length (HL.bools s.set),.sl s.flow.length (HL.ints s.flow),.sl (us.map nl).length (aZ (us.map nl))] 0),(1,.sl nd.length (HL.bools inn)),(2,.sl nd.length (HL.bools out)),(8,.ref 0 [] 1 0 nd.length),(9,.ref 1 [] 1 0 (gY (free inn out) i).length),(29,.int .i64 nd.length),(30,.int .i64 i)],[(0,.osl 1 nd.length (HL.ints (nl (qw (free inn out) nd.length i)))),(1,.osl 1 (gY (free inn out) i).length (HL.ints (nl (gY (free inn out) i))))],2⟩) (fun i=>nd.length - i) 0 (by omega) (by rw [<- Jo];rfl) ?_
 intro i hin
 have hFi:(gY (free inn out) i).length<=i:=rZ _ _
 have hnN:(nl (qw (free inn out) nd.length i)).length=nd.length:=by rw [fH,yD]
 have hnN2:=yD (free inn out) nd.length i
 have hnF:=fH (gY (free inn out) i)
 by_cases hil:i<nd.length
 ·cases hf:free inn out i with
  | true =>
   have h1:inn.getD i false=false:=by unfold free at hf;simp only [Bool.and_eq_true,Bool.not_eq_true'] at hf;exact hf.1
   have h2:out.getD i false=false:=by unfold free at hf;simp only [Bool.and_eq_true,Bool.not_eq_true'] at hf;exact hf.2
   have hset:=KH (fr:=free inn out) (n:=nd.length) hf hil
   have hsu:gY (free inn out) (i+1)=gY (free inn out) i++[i]:=by rw [iY,hf,if_pos rfl]
   have hsl:(gY (free inn out) (i+1)).length=(gY (free inn out) i).length+1:=by rw [hsu];simp
   repeat (first|refine ah ?_|refine aG ?_|refine aN ?_|refine bY ?_|refine bK (by rfl) aT (by (try simp (disch:=omega) only [go_sem,h1,h2]);try rfl) ?_|refine ag ?_|refine az ?_|refine aK ?_|refine di (by rfl) (by rfl) (by (try simp (disch:=omega) only [go_sem,Int.reduceAdd,Int.reduceSub,Int.reduceMul,h1,h2]);try rfl) ?_|refine eH (by rfl) ?_|refine ax ?_|refine ak ?_|refine ae ?_|refine aB ?_|refine dh ?_|refine aA ?_|refine gZ (by rfl) ?_|refine yU (by rfl) fP bW qp (by rfl) (by decide) dm bW aT (by (try simp (disch:=omega) only [go_sem,h1,h2]);try rfl) bW ?_|refine dF ?_|refine jq gU (by rfl) fP AY (by (try simp (disch:=omega) only [go_sem,reduceIte,Nat.reduceEqDiff,Nat.reduceAdd,Nat.reduceMul,h1,h2]);try omega) dm (by (try simp (disch:=omega) only [go_sem,reduceIte,Nat.reduceEqDiff,Nat.reduceAdd,Nat.reduceMul,h1,h2]);try rfl) gU (by omega) jT aT (by (try simp (disch:=omega) only [go_sem,reduceIte,Nat.reduceEqDiff,Nat.reduceAdd,Nat.reduceMul,h1,h2]);try rfl) bW ?_)
   exact bJ [0,1,2,8,9,29,30] (i+1) hil (by omega) (by rw [hsl,hsu,<- hset];rfl)
  | false =>
   have hsk:=I5 (fr:=free inn out) (n:=nd.length) hf
   have hsu:gY (free inn out) (i+1)=gY (free inn out) i:=by rw [iY,hf];simp
   cases h1:inn.getD i false with
   | true =>
    repeat (first|refine ah ?_|refine bZ ?_|refine aN ?_|refine bK (by rfl) aT (by (try simp (disch:=omega) only [go_sem,h1]);try rfl) ?_|refine ag ?_|refine az ?_|refine aI ?_|refine di (by rfl) (by rfl) (by (try simp (disch:=omega) only [go_sem,Int.reduceAdd,Int.reduceSub,Int.reduceMul,h1]);try rfl) ?_|refine ax ?_|refine au ?_|refine ak ?_|refine ae ?_|refine aB ?_|refine dh ?_|refine aA ?_|refine dR (by rfl) ?_)
    exact bJ [0,1,2,8,9,29,30] (i+1) hil (by omega) (by rw [hsu,hsk];rfl)
   | false =>
    have h2:out.getD i false=true:=by
     unfold free at hf;rw [h1] at hf;simpa using hf
    repeat (first|refine ah ?_|refine aG ?_|refine aN ?_|refine bK (by rfl) aT (by (try simp (disch:=omega) only [go_sem,h1,h2]);try rfl) ?_|refine ag ?_|refine az ?_|refine aK ?_|refine di (by rfl) (by rfl) (by (try simp (disch:=omega) only [go_sem,Int.reduceAdd,Int.reduceSub,Int.reduceMul,h1,h2]);try rfl) ?_|refine ax ?_|refine au ?_|refine ak ?_|refine ae ?_|refine aB ?_|refine dh ?_|refine aA ?_|refine dR (by rfl) ?_|refine gZ (by rfl) ?_)
    exact bJ [0,1,2,8,9,29,30] (i+1) hil (by omega) (by rw [hsu,hsk];rfl)
 ·obtain rfl:i=nd.length:=by omega
  repeat (first|refine ah ?_|refine ag ?_|refine az ?_|refine eH (by rfl) ?_|refine aO ?_|refine au ?_|refine ak ?_|refine ae ?_|refine aB ?_|refine eU rfl (by rfl) gU ?_)
  obtain ⟨F,hF⟩:∃F,gY (free inn out) nd.length=F:=⟨_,rfl⟩
  obtain ⟨w,hwe⟩:∃w,gB W C s.num s.den=w:=⟨_,rfl⟩
  obtain ⟨wl,hwl⟩:∃wl,Cf w (free inn out) nd.length=wl:=⟨_,rfl⟩
  obtain ⟨ns,hns⟩:∃ns,JQ nd inn (free inn out) nd.length=ns:=⟨_,rfl⟩
  have hwll:wl.length=F.length:=by rw [<- hwl,ve,hF]
  have hnsl:ns.length=F.length:=by rw [<- hns,lL,hF]
  rw [hwe]
  rw [hF] at hFi hnF hFn ⊢
  refine bD [0,1,8,9,11,12,55,56,57] (fun m:Nat=>m<=F.length)
   (fun m=>⟨[(0,.ptr [.sl nd.length (HL.ints W),.sl nd.length (HL.ints C),.sl nd.length (aZ (nd.map nl)),.int .i64 B,.int .i64 s.steps,.sl s.best.length (HL.bools s.best),.int .i64 s.num,.int .i64 s.den,.int .i64 s.value,.sl s.set.length (HL.bools s.set),.sl s.flow.length (HL.ints s.flow),.sl (us.map nl).length (aZ (us.map nl))] 0),(1,.sl nd.length (HL.bools inn)),(8,.ref 0 [] 1 0 nd.length),(9,.ref 1 [] 1 0 F.length),(11,.ref 2 [] 1 0 m),(12,.ref 3 [] 1 0 m),(55,.ref 1 [] 1 0 F.length),(56,.int .i64 F.length),(57,.int .i64 m)],
    [(0,.osl 1 nd.length (HL.ints (nl (qw (free inn out) nd.length nd.length)))),(1,.osl 1 F.length (HL.ints (nl F))),(2,.osl 1 m (HL.ints (wl.take m))),(3,.osl 1 m (fZ (ns.take m)))],4⟩) (fun m=>F.length - m) 0 (by omega) rfl ?_
  intro m hmF
  have hwt:(wl.take m).length=m:=by simp;omega
  have hnt:(ns.take m).length=m:=by simp;omega
  have hrO:=oI (ns.take m)
  by_cases hml:m<F.length
  ·obtain ⟨h1,h2,h3⟩:=rH (free inn out) (n:=nd.length) (by rw [hF];exact hml)
   have hwg:=Hl w (free inn out) nd.length (m:=m) (by rw [hF];exact hml)
   have hng:=uy nd inn (free inn out) nd.length (m:=m) (by rw [hF];exact hml)
   rw [hF] at h1 h2 h3 hwg hng
   rw [hwl] at hwg
   rw [hns] at hng
   obtain ⟨u,hu⟩:∃u,F.getD m 0=u:=⟨_,rfl⟩
   rw [hu] at h1 h2 h3 hwg hng
   obtain ⟨row,hrow⟩:∃row,nd.getD u []=row:=⟨_,rfl⟩
   have hrl:=h.g.len u
   have hlt:=h.g.lt u
   have hone:=fun {k:Nat}=>AX h.g hup h1 h2 (k:=k)
   rw [hrow] at hrl hlt hone hng
   have hnr:=fH row
   repeat (first|refine ah ?_|refine aN ?_|refine bY ?_|refine bK (by rfl) aT (by (try simp (disch:=omega) only [go_sem,hu,dM,hrow]);try rfl) ?_|refine gJ (by rfl) dm (by (try simp (disch:=omega) only [go_sem,reduceIte,Nat.reduceEqDiff,Nat.reduceAdd,Nat.reduceMul,hu,dM,hrow]);try rfl) aT (by (try simp (disch:=omega) only [go_sem,hu,dM,hrow]);try rfl) fP ?_|refine ag ?_|refine az ?_|refine aF ?_|refine ax ?_|refine ak ?_|refine ae ?_|refine aB ?_|refine aA ?_|refine eU rfl (by rfl) gU ?_|refine nK (by rfl) (by rfl) ?_|refine cZ fP rfl ?_)
   refine bD [0,1,8,9,11,12,14,15,55,56,57,68,69,70] (fun k:Nat=>k<=row.length)
    (fun k=>⟨[(0,.ptr [.sl nd.length (HL.ints W),.sl nd.length (HL.ints C),.sl nd.length (aZ (nd.map nl)),.int .i64 B,.int .i64 s.steps,.sl s.best.length (HL.bools s.best),.int .i64 s.num,.int .i64 s.den,.int .i64 s.value,.sl s.set.length (HL.bools s.set),.sl s.flow.length (HL.ints s.flow),.sl (us.map nl).length (aZ (us.map nl))] 0),(1,.sl nd.length (HL.bools inn)),(8,.ref 0 [] 1 0 nd.length),(9,.ref 1 [] 1 0 F.length),(11,.ref 2 [] 1 0 m),(12,.ref 3 [] 1 0 m),(14,.int .i64 u),(15,.ref 4 [] 1 0 (kZ row inn (free inn out) k).length),(55,.ref 1 [] 1 0 F.length),(56,.int .i64 F.length),(57,.int .i64 m),(68,.sl row.length (HL.ints (nl row))),(69,.int .i64 row.length),(70,.int .i64 k)],
     [(0,.osl 1 nd.length (HL.ints (nl (qw (free inn out) nd.length nd.length)))),(1,.osl 1 F.length (HL.ints (nl F))),(2,.osl 1 m (HL.ints (wl.take m))),(3,.osl 1 m (fZ (ns.take m))),(4,.osl 1 (kZ row inn (free inn out) k).length (HL.ints (nl (kZ row inn (free inn out) k))))],5⟩) (fun k=>row.length - k) 0 (by omega) rfl ?_
   intro k hk
   have hfl:=Jh row inn (free inn out) k
   have hfn:=fH (kZ row inn (free inn out) k)
   by_cases hkr:k<row.length
   ·obtain ⟨x,hx⟩:∃x,row.getD k 0=x:=⟨_,rfl⟩
    have hxr:x∈row:=by rw [<- hx];exact getD_mem row k 0 hkr
    have hxn:=hlt x hxr
    cases hin2:inn.getD x false with
    | true =>
     have hsk:=Fv (fr:=free inn out) hkr (by rw [hx];exact hin2)
     repeat (first|refine ah ?_|refine aN ?_|refine bK (by rfl) aT (by (try simp (disch:=omega) only [go_sem,hx,hin2]);try rfl) ?_|refine ag ?_|refine az ?_|refine di (by rfl) (by rfl) (by (try simp (disch:=omega) only [go_sem,Int.reduceAdd,Int.reduceSub,Int.reduceMul,hx,hin2]);try rfl) ?_|refine ax ?_|refine au ?_|refine ak ?_|refine ae ?_|refine aB ?_|refine dh ?_|refine aA ?_|refine dR (by rfl) ?_)
     exact bJ [0,1,8,9,11,12,14,15,55,56,57,68,69,70] (k+1) hkr (by omega) (by rw [hsk];rfl)
    | false =>
     have had:=IB (fr:=free inn out) hkr (by rw [hx];exact hin2)
     have hnum2:=J3 (n:=nd.length) hxn (hone hxr hin2).2
     rw [hx] at had
     have hal:(kZ row inn (free inn out) (k+1)).length=(kZ row inn (free inn out) k).length+1:=by rw [had];simp
     repeat (first|refine ah ?_|refine aN ?_|refine bY ?_|refine bK (by rfl) aT (by (try simp (disch:=omega) only [go_sem,hx,hin2,hnum2]);try rfl) ?_|refine gJ (by rfl) dm (by (try simp (disch:=omega) only [go_sem,reduceIte,Nat.reduceEqDiff,Nat.reduceAdd,Nat.reduceMul,hx,hin2,hnum2]);try rfl) aT (by (try simp (disch:=omega) only [go_sem,hx,hin2,hnum2]);try rfl) fP ?_|refine ag ?_|refine az ?_|refine di (by rfl) (by rfl) (by (try simp (disch:=omega) only [go_sem,Int.reduceAdd,Int.reduceSub,Int.reduceMul,hx,hin2,hnum2]);try rfl) ?_|refine ax ?_|refine ak ?_|refine ae ?_|refine aB ?_|refine dh ?_|refine aA ?_|refine gZ (by rfl) ?_|refine dF ?_|refine jq gU (by rfl) fP AY (by (try simp (disch:=omega) only [go_sem,reduceIte,Nat.reduceEqDiff,Nat.reduceAdd,Nat.reduceMul,hx,hin2,hnum2]);try omega) dm (by (try simp (disch:=omega) only [go_sem,reduceIte,Nat.reduceEqDiff,Nat.reduceAdd,Nat.reduceMul,hx,hin2,hnum2]);try rfl) gU (by omega) jT aT (by (try simp (disch:=omega) only [go_sem,reduceIte,Nat.reduceEqDiff,Nat.reduceAdd,Nat.reduceMul,hx,hin2,hnum2]);try rfl) bW ?_)
     exact bJ [0,1,8,9,11,12,14,15,55,56,57,68,69,70] (k+1) hkr (by omega) (by rw [hal,had];rfl)
   ·obtain rfl:k=row.length:=by omega
    have hfr:kZ row inn (free inn out) row.length=ns.getD m []:=by rw [hng,kZ,List.take_length]
    have hts:=cO ns m [] (by omega)
    have htw:=cO wl m 0 (by omega)
    rw [<- hfr] at hts
    rw [hwg] at htw
    have hwu:=uY W C s.num s.den (i:=u) (by omega)
    rw [hwe] at hwu
    rw [hwu] at htw
    have hwr:=h.w u
    have hcr:=h.c u
    have b1:=vC (a:=s.den) (b:=W.getD u 0) (by omega) (by omega) hwr.1 hwr.2
    have b2:=vC (a:=s.num) (b:=C.getD u 0) (by omega) (by omega) hcr.1 hcr.2
    obtain ⟨x,hx⟩:∃x,W.getD u 0=x:=⟨_,rfl⟩
    obtain ⟨y,hy⟩:∃x,C.getD u 0=x:=⟨_,rfl⟩
    rw [hx] at hwr b1 htw
    rw [hy] at hcr b2 htw
    have hro:=xY (ns.take m) (kZ row inn (free inn out) row.length) rfl
    repeat (first|refine ag ?_|refine az ?_|refine aO ?_|refine au ?_|refine ak ?_|refine ae ?_)
    refine bQ bi bi (fun _ _ _=>False) ?_
    repeat (first|refine ah ?_|refine aN ?_|refine bK (by rfl) aT (by (try simp (disch:=omega) only [go_sem,hx,hy,hro]);try rfl) ?_|refine ag ?_|refine di (by rfl) (by rfl) (by (try simp (disch:=omega) only [go_sem,Int.reduceAdd,Int.reduceSub,Int.reduceMul,hx,hy,hro]);try rfl) ?_|refine ae ?_|refine dh ?_|refine ik (by rfl) (by rfl) (by (try simp (disch:=omega) only [go_sem,Int.reduceAdd,Int.reduceSub,Int.reduceMul,hx,hy,hro]);try rfl) ?_|refine lg (by rfl) (by rfl) (by (try simp (disch:=omega) only [go_sem,Int.reduceAdd,Int.reduceSub,Int.reduceMul,hx,hy,hro]);try rfl) ?_|refine nK (by rfl) (by rfl) ?_|refine dF ?_|refine jq gU (by rfl) fP AY (by (try simp (disch:=omega) only [go_sem,reduceIte,Nat.reduceEqDiff,Nat.reduceAdd,Nat.reduceMul,hx,hy,hro]);try omega) dm (by (try simp (disch:=omega) only [go_sem,reduceIte,Nat.reduceEqDiff,Nat.reduceAdd,Nat.reduceMul,hx,hy,hro]);try rfl) gU (by omega) jT aT (by (try simp (disch:=omega) only [go_sem,reduceIte,Nat.reduceEqDiff,Nat.reduceAdd,Nat.reduceMul,hx,hy,hro]);try rfl) bW ?_|refine Aq gU aJ bW yK (by simp) (by rfl) (by rfl) (by rfl) ?_|refine Hz gU (by rfl) fP AY (by simp [o8,rq,cellV]) dm bW gU (by omega) jT aT (by (try simp (disch:=omega) only [go_sem,reduceIte,Nat.reduceEqDiff,Nat.reduceAdd,Nat.reduceMul,hx,hy,hro]);try rfl) bW (by rfl) ?_|refine cZ fP rfl ?_)
    exact bJ [0,1,8,9,11,12,55,56,57] (m+1) hml (by omega) (by rw [htw,hts];rfl)
  ·obtain rfl:m=F.length:=by omega
   rw [List.take_of_length_le (l:=wl) (by omega),List.take_of_length_le (l:=ns) (by omega)] at *
   have hg2:=UF (inn:=inn) h.g hup
   rw [hns] at hg2
   have hwo:=L6 (hwe▸hw) (free inn out) nd.length
   rw [hwl] at hwo
   have hmx:=Ia wl ns _ hg2 hwo (by omega)
   simp only [I,Gs,List.length_map,hwll,hnsl] at hmx
   repeat (first|refine ah ?_|refine ag ?_|refine az ?_|refine aO ?_|refine au ?_|refine ak ?_|refine ae ?_)
   refine bf aJ (by simp (disch:=omega) only [dL,nM,zB,HV.thaw,dC,aX,bg,if_true,if_false,reduceIte,Nat.reduceEqDiff,stripL,HV.strip,fF,dJ,eG,Nat.mul_one,List.cons_append,List.nil_append,List.append_nil,I,Bl,T3,Es,List.getD_cons_zero,List.getD_cons_succ,HL.ints_strip,HL.bools_strip,eu,dS];try rfl) (hmx) ?_
   rintro _ ⟨fl,set,value,rfl,hM,-,-⟩
   generalize set.take ns.length=S at *
   have hSl:=hM.len
   rw [hnsl] at hSl
   rw [hnsl]
   refine ⟨dE,_,_,_,_,_,dw,(by decide),aQ,?_⟩
   repeat (first|refine ah ?_|refine ag ?_|refine bU ?_|refine ak ?_|refine ae ?_)
   refine bf aJ dI (hcl) ?_
   rintro _ rfl
   refine ⟨dE,_,_,_,_,_,dw,(by decide),aQ,?_⟩
   repeat (first|refine ah ?_|refine ag ?_|refine eH (by rfl) ?_|refine ak ?_|refine ae ?_|refine aB ?_)
   have hall:=Nz h.g (hwe▸hw) hup hc hi (S:=S) (by rw [hwl,hns];exact hM)
   rw [hwl,hns,hnsl] at hall
   refine bD [9,19,22,134,135,136] (fun j:Nat=>j<=F.length)
    (fun j=>⟨[(9,.ref 0 [] 1 0 F.length),(19,.int .i64 (wS wl S F.length)),(22,.ref 1 [] 1 0 nd.length),(134,.ref 2 [] 1 0 F.length),(135,.int .i64 F.length),(136,.int .i64 j)],
     [(0,.osl 1 F.length (HL.ints (nl F))),(1,.osl 1 nd.length (HL.bools (vH inn out S nd.length j))),(2,.osl 1 F.length (HL.bools S))],3⟩) (fun j=>F.length - j) 0 (by omega) (by rw [IU out S hi];rfl) ?_
   intro j hj
   have hPl:=ML inn out S nd.length j
   by_cases hjF:j<F.length
   ·obtain ⟨h1,h2,h3⟩:=rH (free inn out) (n:=nd.length) (by rw [hF];exact hjF)
    have hset:=LQ (inn:=inn) (out:=out) (S:=S) (n:=nd.length) (j:=j) (by rw [hF];exact hjF)
    rw [hF] at h1 h2 h3 hset
    obtain ⟨u,hu⟩:∃u,F.getD j 0=u:=⟨_,rfl⟩
    obtain ⟨b,hb⟩:∃b,S.getD j false=b:=⟨_,rfl⟩
    rw [hu] at h1 h2 h3 hset
    rw [hb] at hset
    repeat (first|refine ah ?_|refine bY ?_|refine gJ (by rfl) dm (by (try simp (disch:=omega) only [go_sem,reduceIte,Nat.reduceEqDiff,Nat.reduceAdd,Nat.reduceMul,hu,hb]);try rfl) aT (by (try simp (disch:=omega) only [go_sem,hu,hb]);try rfl) fP ?_|refine ag ?_|refine az ?_|refine di (by rfl) (by rfl) (by (try simp (disch:=omega) only [go_sem,Int.reduceAdd,Int.reduceSub,Int.reduceMul,hu,hb]);try rfl) ?_|refine ax ?_|refine ak ?_|refine ae ?_|refine aB ?_|refine dh ?_|refine aA ?_|refine yU (by rfl) fP bW qp (by rfl) (by decide) dm bW aT (by (try simp (disch:=omega) only [go_sem,hu,hb]);try rfl) bW ?_)
    exact bJ [9,19,22,134,135,136] (j+1) hjF (by omega) (by rw [<- hset];rfl)
   ·obtain rfl:j=F.length:=by omega
    have hdone:=IM inn out S nd.length
    rw [hF] at hdone
    rw [hdone]
    repeat (first|refine ah ?_|refine ag ?_|refine az ?_|refine aO ?_|refine au ?_|refine ak ?_|refine ae ?_)
    refine ay ?_
    exact ⟨_,_,rfl,hall⟩
end Go.Proofs.Yteamkjblpglliaa
