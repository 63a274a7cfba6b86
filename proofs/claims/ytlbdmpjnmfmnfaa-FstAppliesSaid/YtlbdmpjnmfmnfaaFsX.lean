import Derived.Test.YtlbdmpjnmfmnfaaFsY
set_option linter.unusedSimpArgs false
set_option linter.unusedVariables false
namespace Go.Proofs.Ytlbdmpjnmfmnfaa
open Go.RowKit Go.HL Go.FS
set_option maxHeartbeats 16000000 in
theorem Ba (fin:List Bool) (al:List A) (w:List Int) (G:List Nd) (gb:List Bool) (most:Int) (lv:List (List Int×List Nd)) (LF:List (List A)) (N:Nat) (hLF:bn (·.f) fin.length al=LF) (hN:fin.length*(w.length+1)=N) (hv:okF fin al=true) (hw:w.length<=1024) (hm1:1<=most) (hm2:most<=64) (hG:∀x,x∈G <-> FS.Good fin al w x) (hGn:G.Nodup) (hb:GB fin.length w G gb) (hlv:lv.map (·.1)=lu fin al w 0) (hrw:∀q∈lv,Row fin al w G.length q) :
  hx Try.prog [.c (.loop Ko),.b 0,.c LM] (finish [6,7] (Z7 fin al w most))
   ⟨[(1,.sl w.length (HL.ints w)),(2,.int .i64 most),(3,.ptr [.sl fin.length (HL.bools fin),.sl al.length (recs aC al)] 0),(8,.ptr [.sl w.length (HL.ints w),.sl LF.length (dL LF),.sl N (HL.bools gb)] 0),(9,.ref 0 [] 1 0 lv.length),(10,.ref 1 [] 1 0 lv.length),(11,.ref 2 [] 1 0 0),(12,.int .i64 0)],[(0,.osl 1 lv.length (Ar lv)),(1,.osl 1 lv.length (zy w lv)),(2,.osl 1 0 [])],3⟩:=by
 obtain ⟨h1,h2,h3⟩:=iF hv
 have hk:uz al:=fun a ha=>by have:=fE hv ha;omega
 have hin:∀a∈al,0<=a.f/\a.f<fin.length:=fun a ha=>by have:=fE hv ha;omega
 have hNb:=kN (n:=fin.length) (w:=w) h2 hw
 have hgl:=hb.len
 have hGl:=iP hGn fun x hx=>jd hin ((hG x).1 hx)
 rw [hN] at hNb hgl hGl
 have hby:=fun S s=>Jk fin al w G S gb s
 rw [hLF] at hby
 simp only [wY,hgl] at hby
 refine bQ [1,2,3,8,9,10,11,12] (fun s:Nat×List (List Int×List Nd)×List (List Int)=>s.2.1.map (·.1)=lu fin al w s.1/\(∀q∈s.2.1,Row fin al w G.length q)/\s.2.2=upto fin al w s.1/\(s.2.2.length:Int)<=most/\(s.2.1.length:Int)<=64/\s.1<=N+1)
  (fun s=>⟨[(1,.sl w.length (HL.ints w)),(2,.int .i64 most),(3,.ptr [.sl fin.length (HL.bools fin),.sl al.length (recs aC al)] 0),(8,.ptr [.sl w.length (HL.ints w),.sl LF.length (dL LF),.sl N (HL.bools gb)] 0),(9,.ref 0 [] 1 0 s.2.1.length),(10,.ref 1 [] 1 0 s.2.1.length),(11,.ref 2 [] 1 0 s.2.2.length),(12,.int .i64 s.1)],[(0,.osl 1 s.2.1.length (Ar s.2.1)),(1,.osl 1 s.2.1.length (zy w s.2.1)),(2,.osl 1 s.2.2.length (wds s.2.2))],3⟩)
  (fun s=>N+2 - s.1) (0,lv,[]) ⟨hlv,hrw,rfl,by simp;omega,?_,by simp⟩ rfl ?_
 ·have:lv.length=(lu fin al w 0).length:=by rw [<- hlv,List.length_map]
  simp only [this]
  unfold lu
  split<;>simp
 clear hlv hrw lv
 rintro ⟨d,lv,ws⟩ ⟨hlv,hrw,hws,hwl,hll,hd⟩
 simp only at hlv hrw hws hwl hll hd ⊢
 by_cases hn:0<lv.length
 ·have har:=AR.start hlv hrw
  rw [<- hws] at har
  have hlvl:(lu fin al w d).length=lv.length:=by rw [<- hlv,List.length_map]
  have hdeep:=fun (h:G.length<d) l=>Gx (most:=most) (m:=0) hk hG hlv hn h l
  repeat (first|refine ah ?_|refine af ?_|refine dO (by rfl) ?_|refine ak ?_|refine au ?_|refine ae ?_|refine aA ?_|refine aH ?_|refine aZ ?_|refine bI ?_)
  refine bF 0 [1,2,3,8,9,10,11,12,13,14,15] ⟨[(1,.sl w.length (HL.ints w)),(2,.int .i64 most),(3,.ptr [.sl fin.length (HL.bools fin),.sl al.length (recs aC al)] 0),(8,.ptr [.sl w.length (HL.ints w),.sl LF.length (dL LF),.sl N (HL.bools gb)] 0),(9,.sl lv.length (wds (lv.map (·.1)))),(10,.ref 0 [] 1 0 lv.length),(11,.ref 1 [] 1 0 ws.length),(12,.int .i64 d),(13,.ref 2 [] 1 0 0),(14,.ref 3 [] 1 0 0),(15,.int .i64 0)],[(0,.osl 1 lv.length (zy w lv)),(1,.osl 1 ws.length (wds ws)),(2,.osl 1 0 []),(3,.osl 1 0 [])],4⟩ (by rw [<- MZ lv];rfl) ?_
  refine bF 0 [1,2,3,8,9,10,11,12,13,14,15] ⟨[(1,.sl w.length (HL.ints w)),(2,.int .i64 most),(3,.ptr [.sl fin.length (HL.bools fin),.sl al.length (recs aC al)] 0),(8,.ptr [.sl w.length (HL.ints w),.sl LF.length (dL LF),.sl N (HL.bools gb)] 0),(9,.sl lv.length (wds (lv.map (·.1)))),(10,.sl lv.length (pG w lv)),(11,.ref 0 [] 1 0 ws.length),(12,.int .i64 d),(13,.ref 1 [] 1 0 0),(14,.ref 2 [] 1 0 0),(15,.int .i64 0)],[(0,.osl 1 ws.length (wds ws)),(1,.osl 1 0 []),(2,.osl 1 0 [])],3⟩ (by rw [<- JK w lv];rfl) ?_
  refine bQ [1,2,3,8,9,10,11,12,13,14,15] (fun s:Nat×List (List Int)×List (List Int×List Nd)=>s.1<=lv.length/\AR fin al w G.length d lv s.1 s.2.1 s.2.2/\s.2.1.length<=64+s.1/\s.2.2.length<=64*s.1)
   (fun s=>⟨[(1,.sl w.length (HL.ints w)),(2,.int .i64 most),(3,.ptr [.sl fin.length (HL.bools fin),.sl al.length (recs aC al)] 0),(8,.ptr [.sl w.length (HL.ints w),.sl LF.length (dL LF),.sl N (HL.bools gb)] 0),(9,.sl lv.length (wds (lv.map (·.1)))),(10,.sl lv.length (pG w lv)),(11,.ref 0 [] 1 0 s.2.1.length),(12,.int .i64 d),(13,.ref 1 [] 1 0 s.2.2.length),(14,.ref 2 [] 1 0 s.2.2.length),(15,.int .i64 s.1)],[(0,.osl 1 s.2.1.length (wds s.2.1)),(1,.osl 1 s.2.2.length (Ar s.2.2)),(2,.osl 1 s.2.2.length (zy w s.2.2))],3⟩)
   (fun s=>lv.length - s.1) (0,ws,[]) ⟨by simp,har,by simp;omega,by simp⟩ rfl ?_
  clear har hwl hws
  rintro ⟨k,ws,nxt⟩ ⟨hk0,har,hwl,hnl⟩
  simp only at hk0 har hwl hnl ⊢
  by_cases hkl:k<lv.length
  ·have hqm:lv.getD k default∈lv:=by rw [List.getD_eq_getElem?_getD,List.getElem?_eq_getElem hkl];exact List.getElem_mem _
   have hq:=hrw _ hqm
   have hql:(lv.getD k default).1.length=d:=BN (fin:=fin) (w:=w) hk (by rw [<- hlv];exact List.mem_map_of_mem hqm)
   have hwn:=FT hkl
   have hcn:=yE (w:=w) hkl
   obtain ⟨u,S,hqe⟩:∃u S,lv.getD k default=(u,S):=⟨_,_,rfl⟩
   rw [hqe] at hq hql hwn hcn
   simp only at hql hwn hcn
   have hSt:=hq.at_
   have hSl:=hq.len
   simp only at hSt hSl
   have hSi:∀x∈S,rP fin.length w x:=fun x hx=>jd hin ((hSt x).1 hx).good
   have hout:=Gq hSt hSi
   repeat (first|refine ah ?_|refine af ?_|refine ay ?_|refine aB ?_|refine ak ?_|refine au ?_|refine ae ?_|refine aA ?_|refine aH ?_)
   refine bQ [1,2,3,8,9,10,11,12,13,14,15,16,17] (fun j:Nat=>j<=S.length)
    (fun j=>⟨[(1,.sl w.length (HL.ints w)),(2,.int .i64 most),(3,.ptr [.sl fin.length (HL.bools fin),.sl al.length (recs aC al)] 0),(8,.ptr [.sl w.length (HL.ints w),.sl LF.length (dL LF),.sl N (HL.bools gb)] 0),(9,.sl lv.length (wds (lv.map (·.1)))),(10,.sl lv.length (pG w lv)),(11,.ref 0 [] 1 0 ws.length),(12,.int .i64 d),(13,.ref 1 [] 1 0 nxt.length),(14,.ref 2 [] 1 0 nxt.length),(15,.int .i64 k),(16,.bool ((S.take j).any (lC fin w))),(17,.int .i64 j)],[(0,.osl 1 ws.length (wds ws)),(1,.osl 1 nxt.length (Ar nxt)),(2,.osl 1 nxt.length (zy w nxt))],3⟩)
    (fun j=>S.length - j) 0 (by omega) rfl ?_
   intro j hj
   by_cases hjl:j<S.length
   ·have hxm:S.getD j default∈S:=by rw [List.getD_eq_getElem?_getD,List.getElem?_eq_getElem hjl];exact List.getElem_mem _
    have hxi:=hSi _ hxm
    have htk:=dE hjl
    generalize hxe:S.getD j default=x at hxm hxi htk
    have hdiv:=uZ hxi
    have hmod:=uX hxi
    have hxc:=ng hxi
    rw [hN] at hxc
    obtain ⟨g1,g2,g3,g4⟩:=hxi
    have hst:(S.take (j+1)).any (lC fin w)=((S.take j).any (lC fin w) || lC fin w x):=by rw [htk,List.any_append];simp
    cases hb0:(S.take j).any (lC fin w) with
    | true =>
     rw [hb0,Bool.true_or] at hst
     repeat (first|refine ah ?_|refine cu ?_|refine aJ ?_|refine dA (by rfl) aG (by (try simp (disch:=omega) only [go_sem,hcn,hxe,hdiv]);try rfl) ?_|refine af ?_|refine ay ?_|refine aK ?_|refine eU (by rfl) (by rfl) (by (try simp (disch:=omega) only [go_sem,Int.reduceAdd,Int.reduceSub,Int.reduceMul,hcn,hxe,hdiv]);try rfl) ?_|refine aB ?_|refine ak ?_|refine au ?_|refine ae ?_|refine aA ?_|refine dH ?_|refine aH ?_|refine y8 (by rfl) (by rfl) ?_|refine sZ (by rfl) (by rfl) (by omega) (by (try simp (disch:=omega) only [go_sem,Int.reduceAdd,Int.reduceSub,Int.reduceMul,hcn,hxe,hdiv]);try rfl) ?_)
     exact bZ [1,2,3,8,9,10,11,12,13,14,15,16,17] (j+1) hjl (by omega) (by simp only [hst];rfl)
    | false =>
     rw [hb0,Bool.false_or] at hst
     cases hf:fin.getD x.1.toNat false with
     | false =>
      have hp:lC fin w x=false:=by simp only [lC,hf,Bool.and_false]
      rw [hp] at hst
      repeat (first|refine ah ?_|refine aO ?_|refine cu ?_|refine aJ ?_|refine dA (by rfl) aG (by (try simp (disch:=omega) only [go_sem,hcn,hxe,hdiv,hf]);try rfl) ?_|refine af ?_|refine ay ?_|refine aN ?_|refine eU (by rfl) (by rfl) (by (try simp (disch:=omega) only [go_sem,Int.reduceAdd,Int.reduceSub,Int.reduceMul,hcn,hxe,hdiv,hf]);try rfl) ?_|refine aB ?_|refine ak ?_|refine au ?_|refine ae ?_|refine aA ?_|refine dH ?_|refine aH ?_|refine sZ (by rfl) (by rfl) (by omega) (by (try simp (disch:=omega) only [go_sem,Int.reduceAdd,Int.reduceSub,Int.reduceMul,hcn,hxe,hdiv,hf]);try rfl) ?_|refine aY ?_)
      exact bZ [1,2,3,8,9,10,11,12,13,14,15,16,17] (j+1) hjl (by omega) (by simp only [hst];rfl)
     | true =>
      by_cases he:x.2=w.length
      ·have hp:lC fin w x=true:=by simp only [lC,hf,Bool.and_true,he,decide_true]
       rw [hp] at hst
       repeat (first|refine ah ?_|refine aO ?_|refine aJ ?_|refine dA (by rfl) aG (by (try simp (disch:=omega) only [go_sem,hcn,hxe,hdiv,hmod,hf]);try rfl) ?_|refine af ?_|refine ay ?_|refine bC ?_|refine aK ?_|refine aN ?_|refine eU (by rfl) (by rfl) (by (try simp (disch:=omega) only [go_sem,Int.reduceAdd,Int.reduceSub,Int.reduceMul,hcn,hxe,hdiv,hmod,hf]);try rfl) ?_|refine aB ?_|refine ak ?_|refine au ?_|refine ae ?_|refine aA ?_|refine dH ?_|refine aH ?_|refine sZ (by rfl) (by rfl) (by omega) (by (try simp (disch:=omega) only [go_sem,Int.reduceAdd,Int.reduceSub,Int.reduceMul,hcn,hxe,hdiv,hmod,hf]);try rfl) ?_|refine mG (by rfl) (by rfl) (by omega) (by (try simp (disch:=omega) only [go_sem,Int.reduceAdd,Int.reduceSub,Int.reduceMul,hcn,hxe,hdiv,hmod,hf]);try rfl) ?_|refine aY ?_)
       exact bZ [1,2,3,8,9,10,11,12,13,14,15,16,17] (j+1) hjl (by omega) (by simp only [hst];rfl)
      ·have hp:lC fin w x=false:=by simp only [lC,hf,Bool.and_true,he,decide_false]
       rw [hp] at hst
       repeat (first|refine ah ?_|refine aO ?_|refine aJ ?_|refine dA (by rfl) aG (by (try simp (disch:=omega) only [go_sem,hcn,hxe,hdiv,hmod,hf]);try rfl) ?_|refine af ?_|refine ay ?_|refine bC ?_|refine aK ?_|refine aN ?_|refine eU (by rfl) (by rfl) (by (try simp (disch:=omega) only [go_sem,Int.reduceAdd,Int.reduceSub,Int.reduceMul,hcn,hxe,hdiv,hmod,hf]);try rfl) ?_|refine aB ?_|refine ak ?_|refine au ?_|refine ae ?_|refine aA ?_|refine dH ?_|refine aH ?_|refine sZ (by rfl) (by rfl) (by omega) (by (try simp (disch:=omega) only [go_sem,Int.reduceAdd,Int.reduceSub,Int.reduceMul,hcn,hxe,hdiv,hmod,hf]);try rfl) ?_|refine mG (by rfl) (by rfl) (by omega) (by (try simp (disch:=omega) only [go_sem,Int.reduceAdd,Int.reduceSub,Int.reduceMul,hcn,hxe,hdiv,hmod,hf]);try rfl) ?_|refine aY ?_)
       exact bZ [1,2,3,8,9,10,11,12,13,14,15,16,17] (j+1) hjl (by omega) (by simp only [hst];rfl)
   ·obtain rfl:j=S.length:=by omega
    rw [List.take_length]
    cases hb0:S.any (lC fin w) with
    | false =>
     have hno:¬ Out fin al w u:=fun h=>by rw [hout.1 h] at hb0;cases hb0
     repeat (first|refine ah ?_|refine aJ ?_|refine dA (by rfl) aG (by (try simp (disch:=omega) only [go_sem,hcn]);try rfl) ?_|refine af ?_|refine ay ?_|refine aB ?_|refine bD (by rfl) ?_|refine ax ?_|refine au ?_|refine ae ?_|refine aA ?_|refine aH ?_)
     refine iT (Weak.norm2 [1,2,3,8,9,10,11,12,13,14,15,19] _) ?_
     refine Jj fin al w G gb most lv nxt ws k d u S LF N hkl hqe hLF hgl hv hw hG (by omega) hb hSt (by omega) (by omega) (by omega) hGn _ _ [6,7] _ (fun rows hrows hrrow hrl=>?_)
     have har':=har.step (rows:=rows) (wds':=ws) hkl (by rw [hqe];exact hrows) hrrow (by rw [hqe];rw [if_neg hno])
     repeat (first|refine ah ?_|refine af ?_|refine bf ?_|refine ae ?_)
     exact bZ [1,2,3,8,9,10,11,12,13,14,15] (k+1,ws,nxt++rows) ⟨hkl,har',by simp only [List.length_append,List.length_singleton];omega,by simp only [List.length_append];omega⟩ dW rfl
    | true =>
     have hyes:=hout.2 hb0
     have hsn:=xB ws u
     by_cases hu:u=[]
     ·have hwr:wR u=.nils:=by rw [wR,if_pos hu]
      rw [hwr] at hwn hsn
      repeat (first|refine ah ?_|refine aJ ?_|refine dA (by rfl) aG (by (try simp (disch:=omega) only [go_sem,hcn,hwn,hsn]);try rfl) ?_|refine af ?_|refine ay ?_|refine aB ?_|refine bD (by rfl) ?_|refine ak ?_|refine ax ?_|refine au ?_|refine ae ?_|refine aA ?_|refine bP ?_|refine gp dN (by rfl) aQ l9 ji aW aI dN (by omega) fP aG (by (try simp (disch:=omega) only [go_sem,reduceIte,Nat.reduceEqDiff,Nat.reduceAdd,Nat.reduceMul,hcn,hwn,hsn]);try rfl) aI (by rfl) ?_)
      have hwl1:(ws++[u]).length=ws.length+1:=by simp
      rw [<- hwl1]
      refine iT (Weak.norm2 [1,2,3,8,9,10,11,12,13,14,15,19] _) ?_
      refine Jj fin al w G gb most lv nxt (ws++[u]) k d u S LF N hkl hqe hLF hgl hv hw hG (by omega) hb hSt (by omega) (by omega) (by omega) hGn _ _ [6,7] _ (fun rows hrows hrrow hrl=>?_)
      have har':=har.step (rows:=rows) (wds':=(ws++[u])) hkl (by rw [hqe];exact hrows) hrrow (by rw [hqe];rw [if_pos hyes])
      repeat (first|refine ah ?_|refine af ?_|refine bf ?_|refine ae ?_)
      exact bZ [1,2,3,8,9,10,11,12,13,14,15] (k+1,(ws++[u]),nxt++rows) ⟨hkl,har',by simp only [List.length_append,List.length_singleton];omega,by simp only [List.length_append];omega⟩ dW rfl
     ·have hwr:wR u=.sl u.length (HL.ints u):=by rw [wR,if_neg hu]
      rw [hwr] at hwn hsn
      repeat (first|refine ah ?_|refine aJ ?_|refine dA (by rfl) aG (by (try simp (disch:=omega) only [go_sem,hcn,hwn,hsn]);try rfl) ?_|refine af ?_|refine ay ?_|refine aB ?_|refine bD (by rfl) ?_|refine ak ?_|refine ax ?_|refine au ?_|refine ae ?_|refine aA ?_|refine bP ?_|refine gp dN (by rfl) aQ l9 ji aW aI dN (by omega) fP aG (by (try simp (disch:=omega) only [go_sem,reduceIte,Nat.reduceEqDiff,Nat.reduceAdd,Nat.reduceMul,hcn,hwn,hsn]);try rfl) aI (by rfl) ?_)
      have hwl1:(ws++[u]).length=ws.length+1:=by simp
      rw [<- hwl1]
      refine iT (Weak.norm2 [1,2,3,8,9,10,11,12,13,14,15,19] _) ?_
      refine Jj fin al w G gb most lv nxt (ws++[u]) k d u S LF N hkl hqe hLF hgl hv hw hG (by omega) hb hSt (by omega) (by omega) (by omega) hGn _ _ [6,7] _ (fun rows hrows hrrow hrl=>?_)
      have har':=har.step (rows:=rows) (wds':=(ws++[u])) hkl (by rw [hqe];exact hrows) hrrow (by rw [hqe];rw [if_pos hyes])
      repeat (first|refine ah ?_|refine af ?_|refine bf ?_|refine ae ?_)
      exact bZ [1,2,3,8,9,10,11,12,13,14,15] (k+1,(ws++[u]),nxt++rows) ⟨hkl,har',by simp only [List.length_append,List.length_singleton];omega,by simp only [List.length_append];omega⟩ dW rfl
  ·obtain rfl:k=lv.length:=by omega
   have hdn:=har.done (Nat.le_refl _)
   have hmo:=fun l (hl:Lst fin al w most l)=>har.mst hk hl
   by_cases l1:most<(ws.length:Int)
   ·repeat (first|refine ah ?_|refine cu ?_|refine af ?_|refine ay ?_|refine aK ?_|refine dO (by rfl) ?_|refine aB ?_|refine bD (by rfl) ?_|refine ak ?_|refine ax ?_|refine au ?_|refine ae ?_|refine aZ ?_|refine bI ?_)
    refine az ?_
    exact .inr ⟨fun l hl=>by have:=(hmo l hl).1;omega,rfl⟩
   by_cases l2:most<(nxt.length:Int)
   ·repeat (first|refine ah ?_|refine aO ?_|refine cu ?_|refine af ?_|refine ay ?_|refine aK ?_|refine aN ?_|refine dO (by rfl) ?_|refine aB ?_|refine bD (by rfl) ?_|refine ak ?_|refine ax ?_|refine au ?_|refine ae ?_|refine aZ ?_|refine bI ?_)
    refine az ?_
    exact .inr ⟨fun l hl=>by have:=(hmo l hl).2;omega,rfl⟩
   by_cases l3:(N:Int)<(d:Int)
   ·repeat (first|refine ah ?_|refine aO ?_|refine dD ?_|refine af ?_|refine ay ?_|refine aN ?_|refine dO (by rfl) ?_|refine aB ?_|refine bD (by rfl) ?_|refine ak ?_|refine ax ?_|refine au ?_|refine ae ?_|refine aZ ?_|refine bI ?_|refine aY ?_)
    refine az ?_
    exact .inr ⟨fun l=>hdeep (by omega) l,rfl⟩
   repeat (first|refine ah ?_|refine aO ?_|refine dD ?_|refine af ?_|refine ay ?_|refine aN ?_|refine bf ?_|refine dO (by rfl) ?_|refine aB ?_|refine bD (by rfl) ?_|refine ax ?_|refine au ?_|refine ae ?_|refine dH ?_|refine aH ?_|refine bI ?_|refine aY ?_)
   exact bZ [1,2,3,8,9,10,11,12] (d+1,nxt,ws) ⟨hdn.2,har.nrow,hdn.1,by simp only;omega,by simp only;omega,by simp only;omega⟩ dW rfl
 ·obtain rfl:lv=[]:=List.length_eq_zero_iff.1 (by omega)
  have hle:lu fin al w d=[]:=by rw [<- hlv];rfl
  subst hws
  have hl:=Gu hle hwl
  repeat (first|refine ah ?_|refine af ?_|refine dO (by rfl) ?_|refine bD (by rfl) ?_|refine ax ?_|refine au ?_|refine ae ?_|refine bI ?_)
  refine az ?_
  exact .inl ⟨_,hl,rfl⟩
end Go.Proofs.Ytlbdmpjnmfmnfaa
