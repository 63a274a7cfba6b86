import Derived.Test.YteamkjblpglliaaAbT
section
set_option linter.unusedSimpArgs false
set_option linter.unusedVariables false
namespace Go.Proofs.Yteamkjblpglliaa
open Go.RowKit Go.SL Go.HL
def pY (fr:Nat->Bool) (n i:Nat):List Nat:=(List.range n).map fun j=>if decide (j < i) && fr j then (gQ fr j).length else 0
theorem yw (fr:Nat->Bool) (n i:Nat):(pY fr n i).length=n:=by simp [pY]
theorem Jg (fr:Nat->Bool) (n:Nat):HL.ints (List.replicate n 0)=HL.ints (nl (pY fr n 0)):=by
 congr 1
 apply List.ext_getElem
 ·simp [nl,pY]
 ·intro k h1 h2;simp [nl,pY]
theorem Jv {fr:Nat->Bool} {n i:Nat} (h:fr i=false):pY fr n (i+1)=pY fr n i:=by
 unfold pY
 apply List.map_congr_left
 intro j _
 by_cases e:j=i
 ·subst e;rw [h];simp
 ·have:decide (j < i+1)=decide (j < i):=by simp only [decide_eq_decide];omega
  rw [this]
theorem LQ {fr:Nat->Bool} {n i:Nat} (h:fr i=true) (hi:i < n):(nl (pY fr n i)).set i ((gQ fr i).length:Int)=nl (pY fr n (i+1)):=by
 apply List.ext_getElem
 ·simp [nl,pY]
 ·intro k h1 h2
  rw [List.getElem_set]
  simp only [nl,pY,List.getElem_map,List.getElem_range]
  by_cases e:i=k
  ·subst e;rw [if_pos rfl,h];simp
  ·rw [if_neg e]
   have:decide (k < i+1)=decide (k < i):=by simp only [decide_eq_decide];omega
   rw [this]
theorem ML {fr:Nat->Bool} {n k:Nat} (hk:k < n) (h:fr k=true):(pY fr n n).getD k 0=(gQ fr k).length:=by
 rw [gI (by rw [yw];exact hk)]
 simp [pY,hk,h]
def kT (row:List Nat) (inn:List Bool) (fr:Nat->Bool) (k:Nat):List Nat:=((row.take k).filter fun x=>!inn.getD x false).map fun x=>(gQ fr x).length
theorem Gt {row:List Nat} {inn:List Bool} {fr:Nat->Bool} {k:Nat} (hk:k < row.length) (h:inn.getD (row.getD k 0) false=true):kT row inn fr (k+1)=kT row inn fr k:=by
 unfold kT
 rw [cO row k 0 hk,List.filter_append]
 simp only [List.filter_cons,h,Bool.not_true,Bool.false_eq_true,if_false,List.filter_nil,List.append_nil]
theorem Jp {row:List Nat} {inn:List Bool} {fr:Nat->Bool} {k:Nat} (hk:k < row.length) (h:inn.getD (row.getD k 0) false=false):kT row inn fr (k+1)=kT row inn fr k ++ [(gQ fr (row.getD k 0)).length]:=by
 unfold kT
 rw [cO row k 0 hk,List.filter_append]
 simp only [List.filter_cons,h,Bool.not_false,if_true,List.filter_nil,List.map_append,List.map_cons,List.map_nil]
theorem IC (row:List Nat) (inn:List Bool) (fr:Nat->Bool) (k:Nat):(kT row inn fr k).length<=row.length:=by
 unfold kT
 rw [List.length_map]
 refine Nat.le_trans (List.length_filter_le _ _) ?_
 simp;omega
def vT (inn out S:List Bool) (n j:Nat):List Bool:=(List.range n).map fun k=>if free inn out k && decide ((gQ (free inn out) k).length < j) then S.getD (gQ (free inn out) k).length false else inn.getD k false
theorem LP (inn out S:List Bool) (n j:Nat):(vT inn out S n j).length=n:=by simp [vT]
theorem IQ {inn:List Bool} (out S:List Bool) {n:Nat} (h:inn.length=n):vT inn out S n 0=inn:=by
 apply List.ext_getElem
 ·simp [vT,h]
 ·intro k h1 h2
  simp only [vT,List.getElem_map,List.getElem_range,Nat.not_lt_zero,decide_false,Bool.and_false,Bool.false_eq_true,if_false]
  exact gI h2
theorem Ll {inn out S:List Bool} {n j:Nat} (hj:j < (gQ (free inn out) n).length):(vT inn out S n j).set ((gQ (free inn out) n).getD j 0) (S.getD j false)=vT inn out S n (j+1):=by
 obtain ⟨h1,h2,h3⟩:=rO (free inn out) hj
 generalize (gQ (free inn out) n).getD j 0=u at *
 apply List.ext_getElem
 ·simp [vT]
 ·intro k hk1 hk2
  have hkn:k < n:=by simpa [vT] using hk2
  rw [List.getElem_set]
  simp only [vT,List.getElem_map,List.getElem_range]
  by_cases e:u=k
  ·subst e;rw [if_pos rfl,h2,h3];simp
  ·rw [if_neg e]
   cases hf:free inn out k with
   | false=>rfl
   | true =>
    have hne:(gQ (free inn out) k).length≠j:=fun he=>e (by
     rw [<- xJ (free inn out) h1 h2,<- xJ (free inn out) hkn hf,h3,he])
    have:decide ((gQ (free inn out) k).length < j+1)=decide ((gQ (free inn out) k).length < j):=by simp only [decide_eq_decide];omega
    rw [this]
theorem Ji (inn out S:List Bool) (n:Nat):vT inn out S n (gQ (free inn out) n).length=Dt inn out S n:=by
 unfold vT Dt
 apply List.map_congr_left
 intro k hk
 have hkn:k < n:=by simpa using hk
 cases hf:free inn out k with
 | false=>rfl
 | true=>simp [vX (free inn out) hkn hf]
set_option maxHeartbeats 16000000 in
theorem OQ {W C:List Int} {nd us:List (List Nat)} {B:Int} (h:Pb W C nd B) (s:Se) (hm:Mul s.num s.den) (hw:WOK (ik W C s.num s.den)) (inn out:List Bool) (hi:inn.length=nd.length) (ho:out.length=nd.length) (hn0:0 < nd.length) (hc:dG nd inn) (hup:NQ nd out) :
  HT Try.prog 63 [.ptr (pR W C nd us B s) 0,Bl inn,Bl out] (fun r=>∃A v,r=.tup [.osl 1 nd.length (HL.bools A),.int .i64 v]/\KF (ik W C s.num s.den) nd inn out A v):=by
 have hsz:=h.g.size
 have hlw:=h.lw
 have hlc:=h.lc
 obtain ⟨hnum,hden⟩:=hm
 have hnl:(nd.map nl).length=nd.length:=by simp
 have hcl:=nX inn (by omega) (by omega)
 simp only [Bl,hi] at hcl
 have hFn:(gQ (free inn out) nd.length).length<=nd.length:=rX _ _
 refine HT.of rfl adL (Nat.le_of_ble_eq_true rfl) ?_
 unfold c63
 simp only [pR,I,Bl,Gs,aO,Nat.reduceAdd,hi,ho,hlw,hlc,hnl]
 repeat (first|refine ah ?_|refine ag ?_|refine aG ?_|refine ak ?_|refine ae ?_|refine aC ?_|refine fM rfl (by rfl) gY ?_|refine kZ gY (by rfl) (by omega) di di ?_)
 refine bH [0,1,2,8,9,29,30] (fun i:Nat=>i<=nd.length)
  (fun i=>⟨[(0,.ptr [.sl nd.length (HL.ints W),.sl nd.length (HL.ints C),.sl nd.length (bf (nd.map nl)),.int .i64 B,.int .i64 s.steps,.sl s.best.length (HL.bools s.best),.int .i64 s.num,.int .i64 s.den,.int .i64 s.value,.sl s.set.length (HL.bools s.set),.sl s.flow.length (HL.ints s.flow),.sl (us.map nl).length (bf (us.map nl))] 0),(1,.sl nd.length (HL.bools inn)),(2,.sl nd.length (HL.bools out)),(8,.ref 0 [] 1 0 nd.length),(9,.ref 1 [] 1 0 (gQ (free inn out) i).length),(29,.int .i64 nd.length),(30,.int .i64 i)],[(0,.osl 1 nd.length (HL.ints (nl (pY (free inn out) nd.length i)))),(1,.osl 1 (gQ (free inn out) i).length (HL.ints (nl (gQ (free inn out) i))))],2⟩) (fun i=>nd.length - i) 0 (by omega) (by rw [<- Jg];rfl) ?_
 intro i hin
 have hFi:(gQ (free inn out) i).length<=i:=rX _ _
 have hnN:(nl (pY (free inn out) nd.length i)).length=nd.length:=by rw [fE,yw]
 have hnN2:=yw (free inn out) nd.length i
 have hnF:=fE (gQ (free inn out) i)
 by_cases hil:i < nd.length
 ·cases hf:free inn out i with
  | true =>
   have h1:inn.getD i false=false:=by unfold free at hf;simp only [Bool.and_eq_true,Bool.not_eq_true'] at hf;exact hf.1
   have h2:out.getD i false=false:=by unfold free at hf;simp only [Bool.and_eq_true,Bool.not_eq_true'] at hf;exact hf.2
   have hset:=LQ (fr:=free inn out) (n:=nd.length) hf hil
   have hsu:gQ (free inn out) (i+1)=gQ (free inn out) i ++ [i]:=by rw [iT,hf,if_pos rfl]
   have hsl:(gQ (free inn out) (i+1)).length=(gQ (free inn out) i).length+1:=by rw [hsu];simp
   repeat (first|refine ah ?_|refine aH ?_|refine aN ?_|refine dH ?_|refine bK (by rfl) aV (by (try simp (disch:=omega) only [go_sem,h1,h2]);try rfl) ?_|refine ag ?_|refine az ?_|refine aJ ?_|refine dn (by rfl) (by rfl) (by (try simp (disch:=omega) only [go_sem,Int.reduceAdd,Int.reduceSub,Int.reduceMul,h1,h2]);try rfl) ?_|refine jd (by rfl) ?_|refine ax ?_|refine ak ?_|refine ae ?_|refine aC ?_|refine dm ?_|refine aB ?_|refine iL (by rfl) ?_|refine E5 (by rfl) gy di Gy (by rfl) (by decide) dK di aV (by (try simp (disch:=omega) only [go_sem,h1,h2]);try rfl) di ?_|refine dS ?_|refine jC gY (by rfl) gy Et (by (try simp (disch:=omega) only [go_sem,reduceIte,Nat.reduceEqDiff,Nat.reduceAdd,Nat.reduceMul,h1,h2]);try omega) dK (by (try simp (disch:=omega) only [go_sem,reduceIte,Nat.reduceEqDiff,Nat.reduceAdd,Nat.reduceMul,h1,h2]);try rfl) gY (by omega) kQ aV (by (try simp (disch:=omega) only [go_sem,reduceIte,Nat.reduceEqDiff,Nat.reduceAdd,Nat.reduceMul,h1,h2]);try rfl) di ?_)
   exact bQ [0,1,2,8,9,29,30] (i+1) hil (by omega) (by rw [hsl,hsu,<- hset];rfl)
  | false =>
   have hsk:=Jv (fr:=free inn out) (n:=nd.length) hf
   have hsu:gQ (free inn out) (i+1)=gQ (free inn out) i:=by rw [iT,hf];simp
   cases h1:inn.getD i false with
   | true =>
    repeat (first|refine ah ?_|refine bT ?_|refine aN ?_|refine bK (by rfl) aV (by (try simp (disch:=omega) only [go_sem,h1]);try rfl) ?_|refine ag ?_|refine az ?_|refine aI ?_|refine dn (by rfl) (by rfl) (by (try simp (disch:=omega) only [go_sem,Int.reduceAdd,Int.reduceSub,Int.reduceMul,h1]);try rfl) ?_|refine ax ?_|refine au ?_|refine ak ?_|refine ae ?_|refine aC ?_|refine dm ?_|refine aB ?_|refine fD (by rfl) ?_)
    exact bQ [0,1,2,8,9,29,30] (i+1) hil (by omega) (by rw [hsu,hsk];rfl)
   | false =>
    have h2:out.getD i false=true:=by
     unfold free at hf;rw [h1] at hf;simpa using hf
    repeat (first|refine ah ?_|refine aH ?_|refine aN ?_|refine bK (by rfl) aV (by (try simp (disch:=omega) only [go_sem,h1,h2]);try rfl) ?_|refine ag ?_|refine az ?_|refine aJ ?_|refine dn (by rfl) (by rfl) (by (try simp (disch:=omega) only [go_sem,Int.reduceAdd,Int.reduceSub,Int.reduceMul,h1,h2]);try rfl) ?_|refine ax ?_|refine au ?_|refine ak ?_|refine ae ?_|refine aC ?_|refine dm ?_|refine aB ?_|refine fD (by rfl) ?_|refine iL (by rfl) ?_)
    exact bQ [0,1,2,8,9,29,30] (i+1) hil (by omega) (by rw [hsu,hsk];rfl)
 ·obtain rfl:i=nd.length:=by omega
  repeat (first|refine ah ?_|refine ag ?_|refine az ?_|refine jd (by rfl) ?_|refine bz (by rfl) ?_|refine au ?_|refine ak ?_|refine ae ?_|refine aC ?_|refine fM rfl (by rfl) gY ?_)
  obtain ⟨F,hF⟩:∃F,gQ (free inn out) nd.length=F:=⟨_,rfl⟩
  obtain ⟨w,hwe⟩:∃w,ik W C s.num s.den=w:=⟨_,rfl⟩
  obtain ⟨wl,hwl⟩:∃wl,BP w (free inn out) nd.length=wl:=⟨_,rfl⟩
  obtain ⟨ns,hns⟩:∃ns,JU nd inn (free inn out) nd.length=ns:=⟨_,rfl⟩
  have hwll:wl.length=F.length:=by rw [<- hwl,uz,hF]
  have hnsl:ns.length=F.length:=by rw [<- hns,lJ,hF]
  rw [hwe]
  rw [hF] at hFi hnF hFn ⊢
  refine bH [0,1,8,9,11,12,55,56,57] (fun m:Nat=>m<=F.length)
   (fun m=>⟨[(0,.ptr [.sl nd.length (HL.ints W),.sl nd.length (HL.ints C),.sl nd.length (bf (nd.map nl)),.int .i64 B,.int .i64 s.steps,.sl s.best.length (HL.bools s.best),.int .i64 s.num,.int .i64 s.den,.int .i64 s.value,.sl s.set.length (HL.bools s.set),.sl s.flow.length (HL.ints s.flow),.sl (us.map nl).length (bf (us.map nl))] 0),(1,.sl nd.length (HL.bools inn)),(8,.ref 0 [] 1 0 nd.length),(9,.ref 1 [] 1 0 F.length),(11,.ref 2 [] 1 0 m),(12,.ref 3 [] 1 0 m),(55,.ref 1 [] 1 0 F.length),(56,.int .i64 F.length),(57,.int .i64 m)],
    [(0,.osl 1 nd.length (HL.ints (nl (pY (free inn out) nd.length nd.length)))),(1,.osl 1 F.length (HL.ints (nl F))),(2,.osl 1 m (HL.ints (wl.take m))),(3,.osl 1 m (gm (ns.take m)))],4⟩) (fun m=>F.length - m) 0 (by omega) rfl ?_
  intro m hmF
  have hwt:(wl.take m).length=m:=by simp;omega
  have hnt:(ns.take m).length=m:=by simp;omega
  have hrO:=nY (ns.take m)
  by_cases hml:m < F.length
  ·obtain ⟨h1,h2,h3⟩:=rO (free inn out) (n:=nd.length) (by rw [hF];exact hml)
   have hwg:=Hu w (free inn out) nd.length (m:=m) (by rw [hF];exact hml)
   have hng:=uK nd inn (free inn out) nd.length (m:=m) (by rw [hF];exact hml)
   rw [hF] at h1 h2 h3 hwg hng
   rw [hwl] at hwg
   rw [hns] at hng
   obtain ⟨u,hu⟩:∃u,F.getD m 0=u:=⟨_,rfl⟩
   rw [hu] at h1 h2 h3 hwg hng
   obtain ⟨row,hrow⟩:∃row,nd.getD u []=row:=⟨_,rfl⟩
   have hrl:=h.g.len u
   have hlt:=h.g.lt u
   have hone:=fun {k:Nat}=>BO h.g hup h1 h2 (k:=k)
   rw [hrow] at hrl hlt hone hng
   have hnr:=fE row
   repeat (first|refine ah ?_|refine aN ?_|refine dH ?_|refine bK (by rfl) aV (by (try simp (disch:=omega) only [go_sem,hu,dM,hrow]);try rfl) ?_|refine gX (by rfl) dK (by (try simp (disch:=omega) only [go_sem,reduceIte,Nat.reduceEqDiff,Nat.reduceAdd,Nat.reduceMul,hu,dM,hrow]);try rfl) aV (by (try simp (disch:=omega) only [go_sem,hu,dM,hrow]);try rfl) gy ?_|refine ag ?_|refine az ?_|refine aG ?_|refine ax ?_|refine ak ?_|refine ae ?_|refine aC ?_|refine aB ?_|refine fM rfl (by rfl) gY ?_|refine mY (by rfl) (by rfl) ?_|refine cZ gy rfl ?_)
   refine bH [0,1,8,9,11,12,14,15,55,56,57,68,69,70] (fun k:Nat=>k<=row.length)
    (fun k=>⟨[(0,.ptr [.sl nd.length (HL.ints W),.sl nd.length (HL.ints C),.sl nd.length (bf (nd.map nl)),.int .i64 B,.int .i64 s.steps,.sl s.best.length (HL.bools s.best),.int .i64 s.num,.int .i64 s.den,.int .i64 s.value,.sl s.set.length (HL.bools s.set),.sl s.flow.length (HL.ints s.flow),.sl (us.map nl).length (bf (us.map nl))] 0),(1,.sl nd.length (HL.bools inn)),(8,.ref 0 [] 1 0 nd.length),(9,.ref 1 [] 1 0 F.length),(11,.ref 2 [] 1 0 m),(12,.ref 3 [] 1 0 m),(14,.int .i64 u),(15,.ref 4 [] 1 0 (kT row inn (free inn out) k).length),(55,.ref 1 [] 1 0 F.length),(56,.int .i64 F.length),(57,.int .i64 m),(68,.sl row.length (HL.ints (nl row))),(69,.int .i64 row.length),(70,.int .i64 k)],
     [(0,.osl 1 nd.length (HL.ints (nl (pY (free inn out) nd.length nd.length)))),(1,.osl 1 F.length (HL.ints (nl F))),(2,.osl 1 m (HL.ints (wl.take m))),(3,.osl 1 m (gm (ns.take m))),(4,.osl 1 (kT row inn (free inn out) k).length (HL.ints (nl (kT row inn (free inn out) k))))],5⟩) (fun k=>row.length - k) 0 (by omega) rfl ?_
   intro k hk
   have hfl:=IC row inn (free inn out) k
   have hfn:=fE (kT row inn (free inn out) k)
   by_cases hkr:k < row.length
   ·obtain ⟨x,hx⟩:∃x,row.getD k 0=x:=⟨_,rfl⟩
    have hxr:x∈row:=by rw [<- hx];exact getD_mem row k 0 hkr
    have hxn:=hlt x hxr
    cases hin2:inn.getD x false with
    | true =>
     have hsk:=Gt (fr:=free inn out) hkr (by rw [hx];exact hin2)
     repeat (first|refine ah ?_|refine aN ?_|refine bK (by rfl) aV (by (try simp (disch:=omega) only [go_sem,hx,hin2]);try rfl) ?_|refine ag ?_|refine az ?_|refine dn (by rfl) (by rfl) (by (try simp (disch:=omega) only [go_sem,Int.reduceAdd,Int.reduceSub,Int.reduceMul,hx,hin2]);try rfl) ?_|refine ax ?_|refine au ?_|refine ak ?_|refine ae ?_|refine aC ?_|refine dm ?_|refine aB ?_|refine fD (by rfl) ?_)
     exact bQ [0,1,8,9,11,12,14,15,55,56,57,68,69,70] (k+1) hkr (by omega) (by rw [hsk];rfl)
    | false =>
     have had:=Jp (fr:=free inn out) hkr (by rw [hx];exact hin2)
     have hnum2:=ML (n:=nd.length) hxn (hone hxr hin2).2
     rw [hx] at had
     have hal:(kT row inn (free inn out) (k+1)).length=(kT row inn (free inn out) k).length+1:=by rw [had];simp
     repeat (first|refine ah ?_|refine aN ?_|refine dH ?_|refine bK (by rfl) aV (by (try simp (disch:=omega) only [go_sem,hx,hin2,hnum2]);try rfl) ?_|refine gX (by rfl) dK (by (try simp (disch:=omega) only [go_sem,reduceIte,Nat.reduceEqDiff,Nat.reduceAdd,Nat.reduceMul,hx,hin2,hnum2]);try rfl) aV (by (try simp (disch:=omega) only [go_sem,hx,hin2,hnum2]);try rfl) gy ?_|refine ag ?_|refine az ?_|refine dn (by rfl) (by rfl) (by (try simp (disch:=omega) only [go_sem,Int.reduceAdd,Int.reduceSub,Int.reduceMul,hx,hin2,hnum2]);try rfl) ?_|refine ax ?_|refine ak ?_|refine ae ?_|refine aC ?_|refine dm ?_|refine aB ?_|refine iL (by rfl) ?_|refine dS ?_|refine jC gY (by rfl) gy Et (by (try simp (disch:=omega) only [go_sem,reduceIte,Nat.reduceEqDiff,Nat.reduceAdd,Nat.reduceMul,hx,hin2,hnum2]);try omega) dK (by (try simp (disch:=omega) only [go_sem,reduceIte,Nat.reduceEqDiff,Nat.reduceAdd,Nat.reduceMul,hx,hin2,hnum2]);try rfl) gY (by omega) kQ aV (by (try simp (disch:=omega) only [go_sem,reduceIte,Nat.reduceEqDiff,Nat.reduceAdd,Nat.reduceMul,hx,hin2,hnum2]);try rfl) di ?_)
     exact bQ [0,1,8,9,11,12,14,15,55,56,57,68,69,70] (k+1) hkr (by omega) (by rw [hal,had];rfl)
   ·obtain rfl:k=row.length:=by omega
    have hfr:kT row inn (free inn out) row.length=ns.getD m []:=by rw [hng,kT,List.take_length]
    have hts:=cO ns m [] (by omega)
    have htw:=cO wl m 0 (by omega)
    rw [<- hfr] at hts
    rw [hwg] at htw
    have hwu:=oQ W C s.num s.den (i:=u) (by omega)
    rw [hwe] at hwu
    rw [hwu] at htw
    have hwr:=h.w u
    have hcr:=h.c u
    have b1:=vK (a:=s.den) (b:=W.getD u 0) (by omega) (by omega) hwr.1 hwr.2
    have b2:=vK (a:=s.num) (b:=C.getD u 0) (by omega) (by omega) hcr.1 hcr.2
    obtain ⟨x,hx⟩:∃x,W.getD u 0=x:=⟨_,rfl⟩
    obtain ⟨y,hy⟩:∃x,C.getD u 0=x:=⟨_,rfl⟩
    rw [hx] at hwr b1 htw
    rw [hy] at hcr b2 htw
    have hro:=yO (ns.take m) (kT row inn (free inn out) row.length) rfl
    repeat (first|refine ag ?_|refine az ?_|refine bz (by rfl) ?_|refine au ?_|refine ak ?_|refine ae ?_)
    refine bU aU aU (fun _ _ _=>False) ?_
    repeat (first|refine ah ?_|refine aN ?_|refine bK (by rfl) aV (by (try simp (disch:=omega) only [go_sem,hx,hy,hro]);try rfl) ?_|refine ag ?_|refine dn (by rfl) (by rfl) (by (try simp (disch:=omega) only [go_sem,Int.reduceAdd,Int.reduceSub,Int.reduceMul,hx,hy,hro]);try rfl) ?_|refine ae ?_|refine dm ?_|refine ig (by rfl) (by rfl) (by (try simp (disch:=omega) only [go_sem,Int.reduceAdd,Int.reduceSub,Int.reduceMul,hx,hy,hro]);try rfl) ?_|refine mf (by rfl) (by rfl) (by (try simp (disch:=omega) only [go_sem,Int.reduceAdd,Int.reduceSub,Int.reduceMul,hx,hy,hro]);try rfl) ?_|refine mY (by rfl) (by rfl) ?_|refine dS ?_|refine jC gY (by rfl) gy Et (by (try simp (disch:=omega) only [go_sem,reduceIte,Nat.reduceEqDiff,Nat.reduceAdd,Nat.reduceMul,hx,hy,hro]);try omega) dK (by (try simp (disch:=omega) only [go_sem,reduceIte,Nat.reduceEqDiff,Nat.reduceAdd,Nat.reduceMul,hx,hy,hro]);try rfl) gY (by omega) kQ aV (by (try simp (disch:=omega) only [go_sem,reduceIte,Nat.reduceEqDiff,Nat.reduceAdd,Nat.reduceMul,hx,hy,hro]);try rfl) di ?_|refine FB gY aK di zJ (by simp) (by rfl) (by rfl) (by rfl) ?_|refine Hq gY (by rfl) gy Et (by simp [oV,qU,cellV]) dK di gY (by omega) kQ aV (by (try simp (disch:=omega) only [go_sem,reduceIte,Nat.reduceEqDiff,Nat.reduceAdd,Nat.reduceMul,hx,hy,hro]);try rfl) di (by rfl) ?_|refine cZ gy rfl ?_)
    exact bQ [0,1,8,9,11,12,55,56,57] (m+1) hml (by omega) (by rw [htw,hts];rfl)
  ·obtain rfl:m=F.length:=by omega
   rw [List.take_of_length_le (l:=wl) (by omega),List.take_of_length_le (l:=ns) (by omega)] at *
   have hg2:=QQ (inn:=inn) h.g hup
   rw [hns] at hg2
   have hwo:=Lc (hwe ▸ hw) (free inn out) nd.length
   rw [hwl] at hwo
   have hmx:=Ih wl ns _ hg2 hwo (by omega)
   simp only [I,Gs,List.length_map,hwll,hnsl] at hmx
   repeat (first|refine ah ?_|refine ag ?_|refine az ?_|refine bz (by rfl) ?_|refine au ?_|refine ak ?_|refine ae ?_)
   refine bg aK (by simp (disch:=omega) only [dL,ng,zo,HV.thaw,dC,aW,aZ,if_true,if_false,reduceIte,Nat.reduceEqDiff,stripL,HV.strip,fH,dQ,eU,Nat.mul_one,List.cons_append,List.nil_append,List.append_nil,I,Bl,T3,Es,List.getD_cons_zero,List.getD_cons_succ,HL.ints_strip,HL.bools_strip,eH,dZ];try rfl) (hmx) ?_
   rintro _ ⟨fl,set,value,rfl,hM,-,-⟩
   generalize set.take ns.length=S at *
   have hSl:=hM.len
   rw [hnsl] at hSl
   rw [hnsl]
   refine ⟨dF,_,_,_,_,_,dA,(by decide),aQ,?_⟩
   repeat (first|refine ah ?_|refine ag ?_|refine cu ?_|refine ak ?_|refine ae ?_)
   refine bg aK dO (hcl) ?_
   rintro _ rfl
   refine ⟨dF,_,_,_,_,_,dA,(by decide),aQ,?_⟩
   repeat (first|refine ah ?_|refine ag ?_|refine jd (by rfl) ?_|refine ak ?_|refine ae ?_|refine aC ?_)
   have hall:=Ou h.g (hwe ▸ hw) hup hc hi (S:=S) (by rw [hwl,hns];exact hM)
   rw [hwl,hns,hnsl] at hall
   refine bH [9,19,22,134,135,136] (fun j:Nat=>j<=F.length)
    (fun j=>⟨[(9,.ref 0 [] 1 0 F.length),(19,.int .i64 (wS wl S F.length)),(22,.ref 1 [] 1 0 nd.length),(134,.ref 2 [] 1 0 F.length),(135,.int .i64 F.length),(136,.int .i64 j)],
     [(0,.osl 1 F.length (HL.ints (nl F))),(1,.osl 1 nd.length (HL.bools (vT inn out S nd.length j))),(2,.osl 1 F.length (HL.bools S))],3⟩) (fun j=>F.length - j) 0 (by omega) (by rw [IQ out S hi];rfl) ?_
   intro j hj
   have hPl:=LP inn out S nd.length j
   by_cases hjF:j < F.length
   ·obtain ⟨h1,h2,h3⟩:=rO (free inn out) (n:=nd.length) (by rw [hF];exact hjF)
    have hset:=Ll (inn:=inn) (out:=out) (S:=S) (n:=nd.length) (j:=j) (by rw [hF];exact hjF)
    rw [hF] at h1 h2 h3 hset
    obtain ⟨u,hu⟩:∃u,F.getD j 0=u:=⟨_,rfl⟩
    obtain ⟨b,hb⟩:∃b,S.getD j false=b:=⟨_,rfl⟩
    rw [hu] at h1 h2 h3 hset
    rw [hb] at hset
    repeat (first|refine ah ?_|refine dH ?_|refine gX (by rfl) dK (by (try simp (disch:=omega) only [go_sem,reduceIte,Nat.reduceEqDiff,Nat.reduceAdd,Nat.reduceMul,hu,hb]);try rfl) aV (by (try simp (disch:=omega) only [go_sem,hu,hb]);try rfl) gy ?_|refine ag ?_|refine az ?_|refine dn (by rfl) (by rfl) (by (try simp (disch:=omega) only [go_sem,Int.reduceAdd,Int.reduceSub,Int.reduceMul,hu,hb]);try rfl) ?_|refine ax ?_|refine ak ?_|refine ae ?_|refine aC ?_|refine dm ?_|refine aB ?_|refine E5 (by rfl) gy di Gy (by rfl) (by decide) dK di aV (by (try simp (disch:=omega) only [go_sem,hu,hb]);try rfl) di ?_)
    exact bQ [9,19,22,134,135,136] (j+1) hjF (by omega) (by rw [<- hset];rfl)
   ·obtain rfl:j=F.length:=by omega
    have hdone:=Ji inn out S nd.length
    rw [hF] at hdone
    rw [hdone]
    repeat (first|refine ah ?_|refine ag ?_|refine az ?_|refine bz (by rfl) ?_|refine au ?_|refine ak ?_|refine ae ?_)
    refine ay ?_
    exact ⟨_,_,rfl,hall⟩
end Go.Proofs.Yteamkjblpglliaa
end
section
set_option linter.unusedSimpArgs false
set_option linter.unusedVariables false
namespace Go.Proofs.Yteamkjblpglliaa
open Go.RowKit Go.SL Go.HL
structure Sel (C:List Int) (nd:List (List Nat)) (B:Int) (S:List Bool):Prop where
 len:S.length=nd.length
 closed:dG nd S
 cost:wS C S nd.length<=B
theorem lL (W C:List Int) (num den:Int) (X:List Bool):∀n,n<=W.length->wS (ik W C num den) X n=den * wS W X n - num * wS C X n
 | 0,_=>by simp [wS]
 | n+1,h=>by
  simp only [wS]
  rw [lL W C num den X n (by omega)]
  cases X.getD n false with
  | false=>simp
  | true =>
   simp only [if_true]
   rw [oQ W C num den (by omega),Int.mul_add,Int.mul_add]
   omega
theorem xO {w:List Int} (hw:∀i,0<=w.getD i 0) {X Y:List Bool} (h:∀u:Nat,X.getD u false=true->Y.getD u false=true):∀n,wS w X n<=wS w Y n
 | 0=>by simp [wS]
 | n+1=>by
  have ih:=xO hw h n
  have:=hw n
  simp only [wS]
  cases hX:X.getD n false with
  | true=>rw [h n hX];simp only [if_true];omega
  | false =>
   simp only [Bool.false_eq_true,if_false]
   split <;> omega
theorem Dw {fr fr':Nat->Bool} {n i:Nat} (h:∀k,fr' k=true->fr k=true) (hi:i < n) (h1:fr i=true) (h2:fr' i=false):(gQ fr' n).length < (gQ fr n).length:=by
 have le:∀m,(gQ fr' m).length<=(gQ fr m).length:=fun m=>by
  induction m with
  | zero=>simp [gQ]
  | succ m ih =>
   rw [iT,iT,List.length_append,List.length_append]
   cases hm:fr' m with
   | true=>rw [h m hm];simp;exact ih
   | false=>simp only [Bool.false_eq_true,if_false,List.length_nil];omega
 have:∀d,(gQ fr' (i+1+d)).length < (gQ fr (i+1+d)).length:=fun d=>by
  induction d with
  | zero =>
   rw [Nat.add_zero,iT,iT,h1,h2]
   have:=le i
   simp only [Bool.false_eq_true,if_false,if_true,List.append_nil,List.length_append,List.length_cons,List.length_nil]
   omega
  | succ d ih =>
   rw [<- Nat.add_assoc,iT,iT,List.length_append,List.length_append]
   cases hm:fr' (i+1+d) with
   | true=>rw [h _ hm];simp;omega
   | false=>simp only [Bool.false_eq_true,if_false,List.length_nil];omega
 have:=this (n - (i+1))
 rw [show i+1+(n - (i+1))=n by omega] at this
 exact this
def Keeps (W C:List Int) (n:Nat) (a b:List Bool):Prop:=∀X:List Bool,X.length=n->lU W C n X a=false->lU W C n X b=false
theorem Keeps.refl (W C:List Int) (n:Nat) (a:List Bool):Keeps W C n a a:=fun _ _ h=>h
theorem Keeps.trans {W C:List Int} {n:Nat} {a b c:List Bool} (h1:Keeps W C n a b) (h2:Keeps W C n b c):Keeps W C n a c:=fun X hX h=>h2 X hX (h1 X hX h)
theorem tH {W C:List Int} {n:Nat} {B:Int} {s:Se} {set:List Bool} (hs:set.length=n) (hb:s.best.length=n):Keeps W C n s.best (vS W C n B s set).best:=by
 intro X hX h
 unfold vS
 split
 ·rename_i hc
  simp only
  cases hx:lU W C n X set with
  | false=>rfl
  | true =>
   have:=zD (by rw [hX,hs]) (by rw [hs,hb]) hx hc.2
   rw [h] at this;cases this
 ·exact h
theorem JG {W C:List Int} {n:Nat} {B:Int} {s:Se} {set:List Bool} (hc:wS C set n<=B):lU W C n set (vS W C n B s set).best=false:=by
 unfold vS
 split
 ·simp only;exact xk W C n set
 ·rename_i h
  cases hb:lU W C n set s.best with
  | false=>rfl
  | true=>exact absurd ⟨hc,hb⟩ h
theorem xB {W C:List Int} {nd:List (List Nat)} {B:Int} {s:Se} {set:List Bool} (h:Sel C nd B s.best) (hl:set.length=nd.length) (hc:dG nd set):Sel C nd B (vS W C nd.length B s set).best:=by
 unfold vS
 split
 ·rename_i h1;exact ⟨hl,hc,h1.1⟩
 ·exact h
theorem vO {W C:List Int} {n:Nat} {B:Int} {s:Se} {set:List Bool}:∃b,vS W C n B s set={ s with best:=b }/\(b=set\/b=s.best):=by
 unfold vS
 split
 ·exact ⟨set,rfl,.inl rfl⟩
 ·exact ⟨s.best,rfl,.inr rfl⟩
structure Va (C:List Int) (nd:List (List Nat)) (B:Int) (inn out X:List Bool):Prop where
 sel:Sel C nd B X
 sub:∀u:Nat,inn.getD u false=true->X.getD u false=true
 apart:∀u:Nat,out.getD u false=true->X.getD u false=false
def FO (k:Nat):Int:=((2 ^ (k+1) - 1:Nat):Int)
theorem oN (k:Nat):1<=FO k:=by
 unfold FO
 have:2<=2 ^ (k+1):=by rw [Nat.pow_succ];have:=Nat.two_pow_pos k;omega
 omega
theorem xx {a b:Nat} (h:a<=b):FO a<=FO b:=by
 unfold FO
 have:2 ^ (a+1)<=2 ^ (b+1):=Nat.pow_le_pow_right (by omega) (by omega)
 omega
theorem Ig {a b k:Nat} (ha:a < k) (hb:b < k):1+FO a+FO b<=FO k:=by
 have h1:=xx (show a<=k - 1 by omega)
 have h2:=xx (show b<=k - 1 by omega)
 have h3:FO k=1+FO (k - 1)+FO (k - 1):=by
  unfold FO
  rw [show k+1=(k - 1+1)+1 by omega,Nat.pow_succ 2 (k - 1+1)]
  have:=Nat.two_pow_pos (k - 1+1)
  omega
 omega
structure BrR (W C:List Int) (nd:List (List Nat)) (B:Int) (inn out:List Bool) (s s':Se) (b:Bool):Prop where
 same:s'={ s with steps:=s'.steps,best:=s'.best }
 steps:0<=s'.steps/\s'.steps<=s.steps
 sel:Sel C nd B s'.best
 keeps:Keeps W C nd.length s.best s'.best
 all:b=true->∀X,Va C nd B inn out X->lU W C nd.length X s'.best=false
 enough:FO (gQ (free inn out) nd.length).length<=s.steps->b=true/\s.steps - FO (gQ (free inn out) nd.length).length<=s'.steps
theorem BrR.stop {W C:List Int} {nd:List (List Nat)} {B:Int} {inn out:List Bool} {s:Se} (h0:s.steps=0) (hs:Sel C nd B s.best):BrR W C nd B inn out s s false :=
 ⟨rfl,by omega,hs,Keeps.refl _ _ _ _,by simp,fun h=>by have:=oN (gQ (free inn out) nd.length).length;omega⟩
theorem prune {W C:List Int} {nd:List (List Nat)} {B v num den:Int} {inn out A best:List Bool} (hlw:W.length=nd.length) (hm:Mul num den) (hR:KF (ik W C num den) nd inn out A v) (hcut:(v+den * wS W inn nd.length - num * wS C inn nd.length+num * B) / den < wS W best nd.length) {X:List Bool} (hX:Va C nd B inn out X):lU W C nd.length X best=false:=by
 have h1:=hR.most X hX.sel.len hX.sel.closed hX.sub hX.apart
 rw [lL _ _ _ _ _ _ (by omega),lL _ _ _ _ _ _ (by omega)] at h1
 have h2:num * wS C X nd.length<=num * B:=Int.mul_le_mul_of_nonneg_left hX.sel.cost hm.1.1
 have h3:wS W X nd.length * den<=v+den * wS W inn nd.length - num * wS C inn nd.length+num * B:=by
  rw [Int.mul_comm];omega
 have h4:wS W X nd.length<=(v+den * wS W inn nd.length - num * wS C inn nd.length+num * B) / den:=(Int.le_ediv_iff_mul_le (by have:=hm.2.1;omega)).2 h3
 unfold lU
 rw [if_neg (by omega)]
 simp only [decide_eq_false_iff_not]
 omega
end Go.Proofs.Yteamkjblpglliaa
end
